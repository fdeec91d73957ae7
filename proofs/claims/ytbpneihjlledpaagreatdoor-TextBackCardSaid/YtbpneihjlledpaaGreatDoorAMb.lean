/-
  An abstract machine for the programs of this model, and that what it tells the model comes to: calls, regions in any order.
-/
import Derived.Test.YtbpneihjlledpaaGreatDoorAMa
import Derived.Laws.Externs
import Derived.KernelRfl
import Derived.OrdersIn
set_option linter.unusedSimpArgs false
set_option linter.unusedVariables false
set_option linter.unusedSectionVars false
namespace Go.AM
variable [Maps] {B lo0 : Nat} {m : Match} {H : Heap} {w : World} {E : Env}
theorem Sim.val {v v' : Value} (hR : Rel B lo0 m H w) (hv : VRel m v v') : Sim B lo0 E m H w v H ((pure (.value v') : Sem Next).run E.P w) := by
  simp only [Sem.run_pure]
  exact ⟨m, .refl hR, hv⟩
theorem Sim.next {r : Result Next} {v v' : Value} {m' : Match} {H' : Heap} {w' : World} (h : r = .ok (.value v') w') (hg : Good B lo0 m H w m' H' w') (hv : VRel m' v v') : Sim B lo0 E m H w v H' r := by
  subst h
  exact ⟨m', hg, hv⟩
theorem nilAhead_run (hE : EnvOk E) {x x' rv : Value} {name : String} {f : FuncId} (h : methodOf E x name = some (f, rv)) (hx : VRel m x x') :
    ∃ t v, x' = .iface t v ∧ ∀ n w, (nilAhead (n + 1) t v name).run E.P w = .ok (some false) w := by
  unfold methodOf at h
  split at h
  · rename_i t v
    cases hx with
    | iface _ hv =>
      rename_i v'
      simp only [Option.bind_eq_some_iff] at h
      obtain ⟨info, h1, md, h2, h3⟩ := h
      split at h3
      · rename_i f₀ pr hp hf
        simp only [Option.bind_eq_some_iff] at h3
        obtain ⟨j, h4, h5⟩ := h3
        refine ⟨t, v', rfl, fun n w => ?_⟩
        have hti : (typeInfo t).run E.P w = .ok info w := run_typeInfo w h1
        have hu := hE.desc h4 rfl w
        cases pr with
        | true => simp only [nilAhead, Sem.run_bind, hti, Result.andThen_ok, h2, hp, followBlind, Sem.run_pure, hf]
        | false =>
          have hnp : ∀ e, j.desc ≠ .pointer e := fun e hd => by rw [hd] at h5; simp at h5
          cases hd : j.desc <;> first
            | (exact absurd hd (hnp _))
            | (rw [hd] at hu; simp only [nilAhead, Sem.run_bind, hti, Result.andThen_ok, h2, hp, followBlind, Sem.run_pure, hf, hu])
      · simp at h3
  · simp at h
theorem nilCheck_sim (hE : EnvOk E) (hR : Rel B lo0 m H w) {x : Value} {v : Value} {H' : Heap}
    (h : (match x with
    | .pointer (some _) => some (x, H)
    | .func (.func _) _ _ => some (x, H)
    | .func (.yield _) _ _ => some (x, H)
    | .func (.via ..) _ _ => some (x, H)
    | .func (.method name) first _ => (match first.toList with
      | y :: _ => (methodOf E y name).bind fun _ => some (x, H)
      | [] => none)
    | .iface _ _ => some (x, H)
    | _ => none) = some (v, H')) {x' : Value} (hx : VRel m x x') (o : Oper) (y : Operand) (ho : o.op = .nilCheck y) (a : Act) (hy : a.eval y = x') : Sim B lo0 E m H w v H' ((execOp a.eval o).run E.P w) := by
  simp only [execOp, ho, hy]
  cases hx with
  | ptr hm => simp only [Option.some.injEq, Prod.mk.injEq] at h; obtain ⟨rfl, rfl⟩ := h; exact .val hR (.ptr hm)
  | iface t hv => simp only [Option.some.injEq, Prod.mk.injEq] at h; obtain ⟨rfl, rfl⟩ := h; exact .val hR (.iface t hv)
  | func hf ha hb ra rb =>
    rename_i f f' p p' q q'
    cases f with
    | func g =>
      simp only [FnRel] at hf
      subst hf
      simp only [Option.some.injEq, Prod.mk.injEq] at h; obtain ⟨rfl, rfl⟩ := h; exact .val hR (.func rfl ha hb ra rb)
    | yield l =>
      obtain ⟨q, h1, rfl⟩ := hf
      simp only [Option.some.injEq, Prod.mk.injEq] at h; obtain ⟨rfl, rfl⟩ := h; exact .val hR (.func ⟨q, h1, rfl⟩ ha hb ra rb)
    | via t path g p =>
      simp only [FnRel] at hf
      subst hf
      simp only [Option.some.injEq, Prod.mk.injEq] at h; obtain ⟨rfl, rfl⟩ := h; exact .val hR (.func rfl ha hb ra rb)
    | method name =>
      simp only [FnRel] at hf
      subst hf
      simp only at h
      cases hp : p.toList with
      | nil => rw [hp] at h; simp at h
      | cons x l =>
        rw [hp] at h
        simp only [Option.bind_eq_some_iff, Option.some.injEq, Prod.mk.injEq] at h
        obtain ⟨mm, h1, rfl, rfl⟩ := h
        have hl : LRel m p.toList p'.toList := ⟨ha, ra⟩
        rw [hp] at hl
        obtain ⟨x', r', e1, e2, e3⟩ := hl.inv_cons
        obtain ⟨t, u, rfl, f2⟩ := nilAhead_run hE (f := mm.1) (rv := mm.2) h1 e2
        have h0 : p'[0]? = some (.iface t u) := by rw [← Array.getElem?_toList, e1]; rfl
        have hP : (program : Sem Program).run E.P w = .ok E.P w := rfl
        simp only [h0, Sem.run_bind, hP, Result.andThen_ok, show E.P.types.size + Made.depth = (E.P.types.size + 99) + 1 from rfl, f2, bne_self_eq_false, Bool.false_eq_true, if_false]
        exact .val hR (.func (show FnRel m (.method name) (.method name) from rfl) ha hb ra rb)
    | _ => simp at h
  | _ => simp at h
theorem exOp_sim (hE : EnvOk E) {call : Caller} (hc : CallSim B lo0 E call) (hR : Rel B lo0 m H w) {T : Tr Value} {a : Act} (ht : TRel m T a.tmps) {o : Oper} {v : Value} {H' : Heap} (h : exOp E call T o H = some (v, H')) :
    Sim B lo0 E m H w v H' ((execOp a.eval o).run E.P w) := by
  unfold exOp at h
  cases ho : o.op with
  | move x =>
    simp only [ho, Option.bind_eq_some_iff, Option.some.injEq, Prod.mk.injEq] at h
    obtain ⟨u, h1, rfl, rfl⟩ := h
    simp only [execOp, ho]
    exact .val hR (ev_rel ht h1)
  | assign x =>
    simp only [ho, Option.bind_eq_some_iff, Option.some.injEq, Prod.mk.injEq] at h
    obtain ⟨u, h1, rfl, rfl⟩ := h
    simp only [execOp, ho]
    exact .val hR (ev_rel ht h1)
  | pick c x y =>
    simp only [ho, Option.bind_eq_some_iff] at h
    obtain ⟨u, h1, h2⟩ := h
    have hu := ev_rel ht h1
    simp only [execOp, ho]
    generalize a.eval c = z at hu
    split at h2
    · cases hu
      simp only [Option.bind_eq_some_iff, Option.some.injEq, Prod.mk.injEq] at h2
      obtain ⟨u, h3, rfl, rfl⟩ := h2
      simp only [asBool, Sem.run_bind, Sem.run_pure, Result.andThen_ok, if_true]
      exact ⟨m, .refl hR, ev_rel ht h3⟩
    · cases hu
      simp only [Option.bind_eq_some_iff, Option.some.injEq, Prod.mk.injEq] at h2
      obtain ⟨u, h3, rfl, rfl⟩ := h2
      simp only [asBool, Sem.run_bind, Sem.run_pure, Result.andThen_ok, Bool.false_eq_true, if_false]
      exact ⟨m, .refl hR, ev_rel ht h3⟩
    · simp at h2
  | alloc t =>
    simp only [ho, Option.bind_eq_some_iff, Option.some.injEq, Prod.mk.injEq] at h
    obtain ⟨i, h1, z, h2, rfl, rfl⟩ := h
    simp only [execOp, ho]
    obtain ⟨v', w', m', h3, h4, h5⟩ := alloc_run hE hR h1 h2
    exact .made h3 h4 h5
  | box t x =>
    simp only [ho, Option.bind_eq_some_iff, Option.some.injEq, Prod.mk.injEq] at h
    obtain ⟨u, h1, rfl, rfl⟩ := h
    simp only [execOp, ho]
    obtain ⟨v', w', m', h3, h4, h5⟩ := box_run hR (t := t) (ev_rel ht h1) E.P
    exact .made h3 h4 h5
  | build t parts =>
    simp only [ho, Option.bind_eq_some_iff, Option.some.injEq, Prod.mk.injEq] at h
    obtain ⟨u, h1, rfl, rfl⟩ := h
    simp only [execOp, ho]
    obtain ⟨v', h3, h5⟩ := structLit_run hE ht h1 w
    exact .still hR h3 h5
  | buildSlice t len parts =>
    simp only [ho, Option.bind_eq_some_iff] at h
    obtain ⟨i, h1, h⟩ := h
    split at h
    · rename_i e hd
      simp only [Option.bind_eq_some_iff] at h
      obtain ⟨j, h2, z, hz, h⟩ := h
      cases hb : (!Nat.beq (cellsV z).length j.size || !Nat.ble (len * j.size) 10000000 || Nat.beq j.size 0) with
      | true => rw [hb] at h; simp at h
      | false =>
        rw [hb] at h
        simp only [cond_false, Option.bind_eq_some_iff, Option.some.injEq, Prod.mk.injEq] at h
        obtain ⟨ps, h6, l, h7, rfl, rfl⟩ := h
        simp only [Bool.or_eq_false_iff, Bool.not_eq_false', Nat.beq_eq, Nat.ble_eq] at hb
        have h5 : j.size ≠ 0 := fun h0 => by have := hb.2; rw [h0] at this; simp at this
        simp only [execOp, ho]
        obtain ⟨v', w', m', h3, h4, h8⟩ := buildSlice_run hE hR ht h1 hd h2 hz hb.1.1 hb.1.2 h5 h6 h7
        exact .made h3 h4 h8
    · simp at h
  | load t x =>
    simp only [ho, Option.bind_eq_some_iff, Option.some.injEq, Prod.mk.injEq] at h
    obtain ⟨u, h1, u2, h2, rfl, rfl⟩ := h
    simp only [execOp, ho]
    obtain ⟨v', h3, h5⟩ := loadV_run hE hR h2 (ev_rel ht h1)
    exact .still hR h3 h5
  | store t x y =>
    simp only [ho, Option.bind_eq_some_iff, Option.some.injEq, Prod.mk.injEq] at h
    obtain ⟨u, h1, u2, h2, H2, h3, rfl, rfl⟩ := h
    simp only [execOp, ho]
    obtain ⟨w', h4, h5⟩ := storeV_run hE hR h3 (ev_rel ht h1) (ev_rel ht h2)
    exact .done h4 h5
  | nilCheck x =>
    simp only [ho, Option.bind_eq_some_iff] at h
    obtain ⟨u, h1, h⟩ := h
    exact nilCheck_sim hE hR h (ev_rel ht h1) o x ho a rfl
  | binOp op t x y ty =>
    simp only [ho, Option.bind_eq_some_iff, Option.some.injEq, Prod.mk.injEq] at h
    obtain ⟨u, h1, u2, h2, u3, h3, rfl, rfl⟩ := h
    simp only [execOp, ho]
    obtain ⟨h4, h5⟩ := binV_run hE h3 (ev_rel ht h1) (ev_rel ht h2) w
    exact .still hR h4 h5
  | unOp op t x =>
    simp only [ho, Option.bind_eq_some_iff, Option.some.injEq, Prod.mk.injEq] at h
    obtain ⟨u, h1, u2, h2, rfl, rfl⟩ := h
    simp only [execOp, ho]
    obtain ⟨h4, h5⟩ := unV_plain h2 m (ev_rel ht h1)
    rw [h4]
    exact .still hR (unV_run h2 w E.P) h5
  | convert s d x =>
    simp only [ho, Option.bind_eq_some_iff, Option.some.injEq, Prod.mk.injEq] at h
    obtain ⟨u, h1, u2, h2, rfl, rfl⟩ := h
    simp only [execOp, ho]
    unfold cvV at h2
    cases hb : Nat.beq s BT with
    | true =>
      rw [hb] at h2
      obtain ⟨v', h4, h5⟩ := bytesStrV_run hE hR h2 (ev_rel ht h1)
      exact .still hR h4 h5
    | false =>
      rw [hb] at h2
      obtain ⟨v', h4, h5⟩ := convV_run hE h2 (ev_rel ht h1) w
      exact .still hR h4 h5
  | makeInterface t x =>
    simp only [ho, Option.bind_eq_some_iff] at h
    obtain ⟨u, h1, i, h2, h⟩ := h
    simp only [execOp, ho]
    have hd := hE.desc h2 rfl w
    have hx := ev_rel ht h1
    have hv : v = .iface t u ∧ H' = H := by cases hi : i.desc <;> rw [hi] at h <;> simp only [reduceCtorEq, Option.some.injEq, Prod.mk.injEq] at h <;> exact ⟨h.1.symm, h.2.symm⟩
    obtain ⟨rfl, rfl⟩ := hv
    have hrun : (Instr.makeInterface t (a.eval x)).run E.P w = .ok (.iface t (a.eval x)) w := by
      simp only [Instr.makeInterface, Sem.run_bind, hd, Result.andThen_ok]
      cases hi : i.desc <;> first
        | rfl
        | (rw [hi] at h; simp only [reduceCtorEq] at h)
    exact .still hR hrun (.iface t hx)
  | makeFunc fn first captured =>
    simp only [execOp, ho]
    cases fn with
    | yield l => simp [ho] at h
    | _ =>
      simp only [ho, Option.bind_eq_some_iff, Option.some.injEq, Prod.mk.injEq] at h
      obtain ⟨fs, h1, cs, h2, rfl, rfl⟩ := h
      have r1 := evs_rel ht h1
      have r2 := evs_rel ht h2
      exact .still hR (v' := .func _ (first.map a.eval) (captured.map a.eval)) rfl (.func rfl (by simpa using r1.1) (by simpa using r2.1) (by simpa using r1.2) (by simpa using r2.2))
  | makeMap t r =>
    cases r with
    | some x => simp [ho] at h
    | none =>
      simp only [ho, Option.some.injEq, Prod.mk.injEq] at h
      obtain ⟨rfl, rfl⟩ := h
      simp only [execOp, ho]
      refine .made (v' := .map (some w.heap.size)) (w' := w.alloc (.map #[] 0)) (m' := upd m H.next ⟨w.heap.size, 0, 0, true, 0⟩) ?_ (Good.added hR (.map #[] 0) _ ⟨w.heap.size, 0, 0, true, 0⟩ rfl rfl ⟨rfl, rfl⟩ ⟨#[], ?_, rfl, fun i k v h => by simp at h⟩ (fun c g t h => by cases h)) (.map (upd_self _ _ _))
      · simp only [Instr.makeMap, Option.map_none, Sem.run_bind, Sem.run_pure, run_newObj, Result.andThen_ok]
        rfl
      · show (w.heap.push _)[w.heap.size]? = _
        simp
  | makeSlice t l c =>
    simp only [ho, Option.bind_eq_some_iff] at h
    obtain ⟨u, h1, u2, h2, h3⟩ := h
    simp only [execOp, ho]
    obtain ⟨⟨k1, n1, rfl⟩, k2, n2, rfl⟩ := makeSliceV_ints h3
    obtain ⟨v', w', m', h4, h5, h6⟩ := makeSlice_run hE hR h3
    have e1 := ev_rel ht h1
    have e2 := ev_rel ht h2
    generalize a.eval l = x1 at e1
    generalize a.eval c = x2 at e2
    cases e1
    cases e2
    exact .made h4 h5 h6
  | slice t x lo hi mx =>
    simp only [ho, Option.bind_eq_some_iff, Option.some.injEq, Prod.mk.injEq] at h
    obtain ⟨u, h1, u2, h2, u3, h3, u4, h4, u5, h5, rfl, rfl⟩ := h
    simp only [execOp, ho]
    obtain ⟨i1, i2, i3⟩ := sliceV_ints h5
    obtain ⟨v', h6, h7⟩ := sliceV_run hE hR h5 (ev_rel ht h1)
    rw [evO_int ht h2 i1, evO_int ht h3 i2, evO_int ht h4 i3]
    exact .still hR h6 h7
  | fieldAddr s x f =>
    simp only [ho, Option.bind_eq_some_iff, Option.some.injEq, Prod.mk.injEq] at h
    obtain ⟨u, h1, u2, h2, rfl, rfl⟩ := h
    simp only [execOp, ho]
    obtain ⟨v', h4, h5⟩ := fieldAddrV_run hE h2 (ev_rel ht h1) w
    exact .still hR h4 h5
  | field t x f =>
    simp only [ho, Option.bind_eq_some_iff, Option.some.injEq, Prod.mk.injEq] at h
    obtain ⟨u, h1, u2, h2, rfl, rfl⟩ := h
    simp only [execOp, ho]
    obtain ⟨v', h4, h5⟩ := fieldV_run hE h2 (ev_rel ht h1) w
    exact .still hR h4 h5
  | indexAddr t x ix =>
    simp only [ho, Option.bind_eq_some_iff, Option.some.injEq, Prod.mk.injEq] at h
    obtain ⟨u, h1, u3, h3, u2, h2, rfl, rfl⟩ := h
    simp only [execOp, ho]
    obtain ⟨v', h4, h5⟩ := indexAddrV_run hE h2 (ev_rel ht h1) (ev_rel ht h3) w
    exact .still hR h4 h5
  | index t x ix =>
    simp only [ho, Option.bind_eq_some_iff, Option.some.injEq, Prod.mk.injEq] at h
    obtain ⟨u, h1, u3, h3, u2, h2, rfl, rfl⟩ := h
    simp only [execOp, ho]
    obtain ⟨v', h4, h5⟩ := indexV_run hE h2 (ev_rel ht h1) (ev_rel ht h3) w
    exact .still hR h4 h5
  | lookup t x i ok =>
    simp only [ho, Option.bind_eq_some_iff, Option.some.injEq, Prod.mk.injEq] at h
    obtain ⟨u, h1, u3, h3, u2, h2, rfl, rfl⟩ := h
    simp only [execOp, ho]
    obtain ⟨v', h4, h5⟩ := lookupV_run hE hR h2 (ev_rel ht h1) (ev_rel ht h3)
    exact .still hR h4 h5
  | mapUpdate t x k y =>
    simp only [ho, Option.bind_eq_some_iff, Option.some.injEq, Prod.mk.injEq] at h
    obtain ⟨u, h1, u2, h2, u3, h3, H2, h4, rfl, rfl⟩ := h
    simp only [execOp, ho]
    obtain ⟨w', h5, h6⟩ := mapUpdateV_run hE hR h4 (ev_rel ht h1) (ev_rel ht h2) (ev_rel ht h3)
    exact .done h5 h6
  | range t x =>
    simp only [ho, Option.bind_eq_some_iff] at h
    obtain ⟨u, h1, i, h2, ob, h, hv⟩ := h
    simp only [Option.some.injEq, Prod.mk.injEq] at hv
    obtain ⟨rfl, rfl⟩ := hv
    unfold rangeO at h
    split at h
    · rename_i k e mm hd
      split at h
      · rename_i q hq
        simp only [Option.some.injEq] at h
        subst h
        simp only [execOp, ho]
        obtain ⟨v', w', m', h4, h5, h6⟩ := rangeG_run hE hR h2 hd hq (ev_rel ht h1)
        exact .made h4 h5 h6
      simp only [Option.bind_eq_some_iff, Option.some.injEq] at h
      obtain ⟨es, h3, rfl⟩ := h
      simp only [execOp, ho]
      obtain ⟨v', w', m', h4, h5, h6⟩ := range_run hE hR h2 hd h3 (ev_rel ht h1)
      exact .made h4 h5 h6
    · rename_i s hd
      simp only [Option.some.injEq] at h
      subst h
      simp only [execOp, ho]
      obtain ⟨v', w', m', h4, h5, h6⟩ := rangeS_run hE hR h2 hd (ev_rel ht h1)
      exact .made h4 h5 h6
    · simp at h
  | next it str =>
    cases str with
    | false =>
      simp only [ho, Option.bind_eq_some_iff] at h
      obtain ⟨u, h1, h2⟩ := h
      simp only [execOp, ho]
      obtain ⟨v', w', h4, h5, h6⟩ := nextG_run hR h2 (ev_rel ht h1) E.P o.type
      exact .made h4 h5 h6
    | true =>
      simp only [ho, Option.bind_eq_some_iff] at h
      obtain ⟨u, h1, h2⟩ := h
      simp only [execOp, ho]
      obtain ⟨v', w', h4, h5, h6⟩ := nextV_run hR h2 (ev_rel ht h1) E.P o.type
      exact .made h4 h5 h6
  | entry it =>
    simp only [ho, Option.bind_eq_some_iff, Option.some.injEq, Prod.mk.injEq] at h
    obtain ⟨u, h1, u2, h2, rfl, rfl⟩ := h
    simp only [execOp, ho]
    obtain ⟨v', h4, h5⟩ := entry_run hR h2 (ev_rel ht h1) E.P
    exact .still hR h4 h5
  | extract t ix =>
    simp only [ho, Option.bind_eq_some_iff] at h
    obtain ⟨u, h1, h⟩ := h
    have hu := ev_rel ht h1
    simp only [execOp, ho]
    generalize a.eval t = x' at hu
    split at h
    · cases hu with
      | tuple ha ra =>
        rename_i vs'
        simp only [Option.bind_eq_some_iff, Option.some.injEq, Prod.mk.injEq] at h
        obtain ⟨u2, h2, rfl, rfl⟩ := h
        obtain ⟨v', h3, h4⟩ := LRel.get ⟨ha, ra⟩ h2
        refine .still hR (v' := v') ?_ h4
        have h5 : vs'[ix]? = some v' := by simpa using h3
        simp only [Instr.extract, h5, Sem.run_pure]
    · simp at h
  | call c =>
    simp only [ho, Option.bind_eq_some_iff] at h
    obtain ⟨args, h1, h⟩ := h
    have hargs : LRel m args (c.args.map a.eval).toList := by simpa using evs_rel ht h1
    simp only [execOp, ho]
    cases hcal : c.callee with
    | builtin b =>
      simp only [hcal] at h
      obtain ⟨v', w', m', h3, h4, h5⟩ := builtinV_run hE hR hargs h o.type (c.args.map fun | .const _ => true | _ => false)
      simp only [resolve, hcal, Sem.run_bind, Sem.run_pure, Result.andThen_ok, invoke]
      exact Sim.next h3 h4 h5
    | value f =>
      simp only [hcal, Option.bind_eq_some_iff] at h
      obtain ⟨fv, h2, h3⟩ := h
      have := hc fv args H v H' h3 m w _ _ (ev_rel ht h2) hargs hR
      simpa only [resolve, hcal] using this
    | invoke x name =>
      simp only [hcal, Option.bind_eq_some_iff] at h
      obtain ⟨xv, h2, mm, h3, h4⟩ := h
      obtain ⟨t, u, rv', e1, e2, e3⟩ := methodOf_run hE (f := mm.1) (rv := mm.2) h3 (ev_rel ht h2)
      have := hc _ _ H v H' h4 m w (.func (.func mm.1) #[] #[]) (#[rv'] ++ c.args.map a.eval) (.func rfl rfl rfl (fun i v v' h => by simp at h) (fun i v v' h => by simp at h)) (by simpa using LRel.cons e3 hargs) hR
      have hP : (program : Sem Program).run E.P w = .ok E.P w := rfl
      simp only [resolve, hcal, Sem.run_bind, Sem.run_pure, Result.andThen_ok, invoke, e1]
      simp only [Deferred.ofValue, Sem.run_bind, Sem.run_pure, Result.andThen_ok, invoke] at this
      have he : (#[Value.iface t u] ++ c.args.map a.eval)[0]? = some (.iface t u) := by
        rw [Array.getElem?_append_left (by simp)]; rfl
      have hx : (#[Value.iface t u] ++ c.args.map a.eval).extract 1 (#[Value.iface t u] ++ c.args.map a.eval).size = c.args.map a.eval := by
        apply Array.ext'
        simp [List.take_of_length_le]
      simp only [he, hx, callMethod, Sem.run_bind, hP, Result.andThen_ok, show E.P.types.size + Made.depth = (E.P.types.size + 99) + 1 from rfl, e2]
      simpa using this
  | _ => simp [ho] at h
end Go.AM

namespace Go.AM
section
variable [Maps] {B lo0 : Nat} {m : Match} {H : Heap} {w : World} {E : Env}
end
section
variable {B lo0 : Nat} {m : Match} {w : World} {P : Program}
theorem run_program (P : Program) (w : World) : (program : Sem Program).run P w = .ok P w := rfl
end
section
variable [Maps] {B lo0 : Nat} {m : Match} {H : Heap} {w : World} {E : Env}
def MRel (m : Match) : List Nat → List Deferred → Prop
  | [], [] => True
  | r :: rs, d :: ds => (∃ p, m r = some p ∧ d.target = .collected p.blk) ∧ MRel m rs ds
  | _, _ => False
end
section
variable {B lo0 : Nat} {m : Match} {w : World} {P : Program}
theorem MRel.mono {m m' : Match} (h : m.le m') : ∀ {rs : List Nat} {ds : List Deferred}, MRel m rs ds → MRel m' rs ds
  | [], [], _ => trivial
  | _ :: _, _ :: _, ⟨⟨p, h1, h2⟩, h3⟩ => ⟨⟨p, h _ _ h1, h2⟩, h3.mono h⟩
end
section
variable [Maps] {B lo0 : Nat} {m : Match} {H : Heap} {w : World} {E : Env}
structure FrRel (m : Match) (fr : Fr) (a : Act) (ro : Option Nat) : Prop where
  tmps : TRel m fr.T a.tmps
  size : a.tmps.size = fr.size
  marks : MRel m fr.marks a.defers
  round : fr.round = none → ro = none
theorem FrRel.mono {m m' : Match} (h : m.le m') {fr : Fr} {a : Act} {ro : Option Nat} (hf : FrRel m fr a ro) : FrRel m' fr a ro := ⟨hf.tmps.mono h, hf.size, hf.marks.mono h, hf.round⟩
def Ex.to : Ex → Exit
  | .normal => .normal
  | .exit id => .exit id
  | .ret => .ret
def RunPost (B lo0 : Nat) (m : Match) (H : Heap) (w : World) (c : Code) (a : Act) (ro : Option Nat) (ex : Ex) (fr' : Fr) (H' : Heap) : Exit → Act → World → Prop :=
  fun e a' w' => e = ex.to ∧ ∃ m', Good B lo0 m H w m' H' w' ∧ FrRel m' fr' a' ro ∧ ∀ t, t ∉ writesOf c → a'.tmps[t]? = a.tmps[t]?
def CodeSim (E : Env) (run : Code → Fr → Heap → Option (Ex × Fr × Heap)) : Prop := ∀ c fr H ex fr' H', run c fr H = some (ex, fr', H') → ∀ B lo0 m a w ro, Rel B lo0 m H w → FrRel m fr a ro →
  c.wpIn (fenceOf ro) 0 E.P (RunPost B lo0 m H w c a ro ex fr' H') a w
end
section
variable {B lo0 : Nat} {m : Match} {w : World} {P : Program}
theorem put_tmps {a : Act} {d : Tmp} {v : Value} : (a.put (some d) v).tmps = a.tmps.setIfInBounds d v := rfl
end
section
variable [Maps] {B lo0 : Nat} {m : Match} {H : Heap} {w : World} {E : Env}
theorem putT_rel {m : Match} {T T' : Tr Value} {a : Act} {size : Nat} {dst : Option Tmp} {v v' : Value} (h : putT size T dst v = some T') (ht : TRel m T a.tmps) (hs : a.tmps.size = size) (hv : VRel m v v') :
    TRel m T' (a.put dst v').tmps ∧ (a.put dst v').tmps.size = size ∧ (a.put dst v').defers = a.defers ∧ ∀ t, dst ≠ some t → (a.put dst v').tmps[t]? = a.tmps[t]? := by
  cases dst with
  | none => simp only [putT, Option.some.injEq] at h; subst h; exact ⟨ht, hs, rfl, fun _ _ => rfl⟩
  | some d =>
    simp only [putT] at h
    obtain ⟨h1, h2⟩ := beq_cond h
    simp only [Tr.force_eq, Option.some.injEq] at h2
    subst h2
    have hd : Nat.lt d size := Nat.le_of_ble_eq_true h1
    refine ⟨fun t u hu => ?_, by rw [put_tmps]; simpa using hs, rfl, fun t ht' => ?_⟩
    · rw [put_tmps]
      rcases Tr.get_set hu with ⟨rfl, rfl⟩ | ⟨h3, h4⟩
      · exact ⟨v', by rw [Array.getElem?_setIfInBounds_self_of_lt (by rw [hs]; exact hd)], hv⟩
      · obtain ⟨u', h5, h6⟩ := ht t u h4
        exact ⟨u', by rw [Array.getElem?_setIfInBounds_ne (fun h => h3 h.symm)]; exact h5, h6⟩
    · rw [put_tmps, Array.getElem?_setIfInBounds_ne (fun h => ht' (by rw [h]))]
theorem wanted_rel {m : Match} {T : Tr Value} {a : Act} {ops : Array Oper} {o : Oper} {b : Bool} (h : wantedA T ops.toList o = some b) (ht : TRel m T a.tmps) : Region.wanted o (yielded ops a.tmps) = b := by
  unfold wantedA at h
  unfold Region.wanted
  cases hg : o.guard with
  | none => rw [hg] at h; simpa using h
  | some jw =>
    obtain ⟨j, want⟩ := jw
    rw [hg] at h
    simp only at h ⊢
    cases hd : (ops.toList[j]?).bind (·.dst) with
    | none => rw [hd] at h; simp at h
    | some d =>
      rw [hd] at h
      have hd' : (ops[j]?).bind (·.dst) = some d := by simpa using hd
      simp only at h
      cases hT : T.get d with
      | none => rw [hT] at h; simp at h
      | some v =>
        rw [hT] at h
        obtain ⟨v', h1, h2⟩ := ht d v hT
        simp only [yielded, hd', Option.bind_some, h1]
        cases h2 <;> simp only [reduceCtorEq, Option.some.injEq] at h <;> subst h
        · rename_i x; cases x <;> cases want <;> rfl
        · rfl
end
section
variable {B lo0 : Nat} {m : Match} {w : World} {P : Program}
theorem about_fn {ro : Option Nat} {o : Oper} {a : Act} {P : Program} {w : World} : ∀ f, o.about P w a.eval = some f → (fenceOf ro).fn f := fun _ _ => trivial
end
section
variable [Maps] {B lo0 : Nat} {m : Match} {H : Heap} {w : World} {E : Env}
theorem exOp_noDefer {call : Caller} {T : Tr Value} {o : Oper} {r : Value × Heap} (h : exOp E call T o H = some r) (c : Call) : o.op ≠ .defer c := fun hc => by
  unfold exOp at h
  simp [hc] at h
theorem oper_sim (hE : EnvOk E) {call : Caller} (hc : CallSim B lo0 E call) (hR : Rel B lo0 m H w) {T : Tr Value} {a : Act} (ht : TRel m T a.tmps) {o : Oper} {v : Value} {H' : Heap} (h : exOp E call T o H = some (v, H'))
    {next : Act → World → Prop} {Q : Exit → Act → World → Prop} {ro : Option Nat} (hn : ∀ v' w' m', Good B lo0 m H w m' H' w' → VRel m' v v' → next (a.put o.dst v') w') : o.wpIn (fenceOf ro) 0 E.P a w next Q := by
  refine ⟨about_fn, ?_⟩
  rw [Oper.semAt_eq _ _ _ (exOp_noDefer h)]
  exact UpTo.uponIn (exOp_sim hE hc hR ht h) fun v' w' ⟨m', h1, h2⟩ => hn v' w' m' h1 h2
theorem exOps_sim (hE : EnvOk E) {call : Caller} (hc : CallSim B lo0 E call) {ops : Array Oper} {Q : Exit → Act → World → Prop} {ro : Option Nat} {size : Nat} : ∀ (rest : List Oper) (k : Nat), (∀ j, rest[j]? = ops[k + j]?) →
    ∀ (T : Tr Value) (H : Heap) (T' : Tr Value) (H' : Heap) (a : Act) (w : World) (m : Match), exOps E call ops.toList size rest T H = some (T', H') → Rel B lo0 m H w → TRel m T a.tmps → a.tmps.size = size →
    (∀ a' w' m', Good B lo0 m H w m' H' w' → TRel m' T' a'.tmps → a'.tmps.size = size → a'.defers = a.defers → (∀ t, (∀ o ∈ rest, o.dst ≠ some t) → a'.tmps[t]? = a.tmps[t]?) → Q .normal a' w') →
    wpOpsIn (fenceOf ro) 0 E.P ops Q (List.range' k rest.length) a w
  | [], k, _, T, H, T', H', a, w, m, h, hR, ht, hs, hq => by
    simp only [exOps, Option.some.injEq, Prod.mk.injEq] at h
    obtain ⟨rfl, rfl⟩ := h
    exact hq a w m (.refl hR) ht hs rfl fun _ _ => rfl
  | o :: rest, k, hk, T, H, T', H', a, w, m, h, hR, ht, hs, hq => by
    have ho : ops[k]? = some o := by simpa using (hk 0).symm
    have hk' : ∀ j, rest[j]? = ops[k + 1 + j]? := fun j => by rw [show k + 1 + j = k + (j + 1) by omega, ← hk (j + 1)]; simp
    simp only [List.length_cons, List.range'_succ, wpOpsIn, ho]
    simp only [exOps, forceH_eq] at h
    cases hw : wantedA T ops.toList o with
    | none => rw [hw] at h; simp at h
    | some b =>
      rw [hw] at h
      rw [wanted_rel hw ht]
      cases b with
      | true =>
        simp only [Option.bind_eq_some_iff] at h
        obtain ⟨r, h1, T1, h2, h3⟩ := h
        simp only [if_true]
        refine oper_sim hE hc hR ht h1 fun v' w' m' hg hv => ?_
        obtain ⟨p1, p2, p3, p4⟩ := putT_rel (a := a) h2 (ht.mono hg.le) hs hv
        refine exOps_sim hE hc rest (k + 1) hk' T1 r.2 T' H' _ w' m' h3 hg.rel p1 p2 fun a' w'' m'' hg' q1 q2 q3 q4 => ?_
        exact hq a' w'' m'' (hg.trans hg') q1 q2 (q3.trans p3) fun t hto => (q4 t fun o' ho' => hto o' (List.mem_cons_of_mem _ ho')).trans (p4 t (hto o (List.mem_cons_self ..)))
      | false =>
        simp only [Option.bind_eq_some_iff] at h
        obtain ⟨T1, h2, h3⟩ := h
        simp only [Bool.false_eq_true, if_false]
        refine ⟨about_fn, ?_⟩
        obtain ⟨p1, p2, p3, p4⟩ := putT_rel (a := a) h2 ht hs (undef_rel m)
        refine exOps_sim hE hc rest (k + 1) hk' T1 H T' H' _ w m h3 hR p1 p2 fun a' w'' m'' hg' q1 q2 q3 q4 => ?_
        exact hq a' w'' m'' hg' q1 q2 (q3.trans p3) fun t hto => (q4 t fun o' ho' => hto o' (List.mem_cons_of_mem _ ho')).trans (p4 t (hto o (List.mem_cons_self ..)))
theorem region_sim (hE : EnvOk E) {call : Caller} (hc : CallSim B lo0 E call) {id : Nat} {ops : Array Oper} {fr : Fr} {T' : Tr Value} {H' : Heap} {a : Act} {ro : Option Nat} (hR : Rel B lo0 m H w) (hf : FrRel m fr a ro)
    (h : exOps E call ops.toList fr.size ops.toList fr.T H = some (T', H')) :
    (Code.region id ops false).wpIn (fenceOf ro) 0 E.P (RunPost B lo0 m H w (.region id ops false) a ro .normal { T := T', size := fr.size, marks := fr.marks, round := fr.round } H') a w := by
  apply wpIn_region
  rw [List.range_eq_range', show ops.size = ops.toList.length by simp]
  refine exOps_sim hE hc ops.toList 0 (fun j => by simp) fr.T H T' H' a w m h hR hf.tmps hf.size fun a' w' m' hg q1 q2 q3 q4 => ?_
  refine ⟨rfl, m', hg, ⟨q1, q2, by rw [q3]; exact hf.marks.mono hg.le, hf.round⟩, fun t ht => q4 t fun o ho hd => ht ?_⟩
  simp only [writesOf, List.mem_filterMap]
  exact ⟨o, ho, hd⟩
theorem loadVar_run (hE : EnvOk E) (hR : Rel B lo0 m H w) {t : TypeId} {x x' v : Value} (h : loadV E H t x = some v) (hx : VRel m x x') : ∃ v', (do loadVar t (← asAddr x') : Sem Value).run E.P w = .ok v' w ∧ VRel m v v' := by
  obtain ⟨v', h1, h2⟩ := loadV_run hE hR h hx
  refine ⟨v', ?_, h2⟩
  unfold loadV at h
  split at h
  · cases hx with
    | ptr hm => simpa only [Instr.loadAt, Instr.sureAddr, asAddr, Sem.run_bind, Sem.run_pure, Result.andThen_ok] using h1
  · simp at h
theorem resultsV_run (hE : EnvOk E) (hR : Rel B lo0 m H w) {T : Tr Value} {tmps : Array Value} (ht : TRel m T tmps) : ∀ {l : List ResultVar} {vs : List Value}, resultsV E H T l = some vs →
    ∃ vs', (l.mapM (m := Sem) fun
      | .tmp t => pure (tmps.getD t undef)
      | .cell a t => do loadVar t (← asAddr (tmps.getD a undef))).run E.P w = .ok vs' w ∧ LRel m vs vs'
  | [], vs, h => by
    simp only [resultsV, Option.some.injEq] at h
    subst h
    exact ⟨[], rfl, .nil m⟩
  | .tmp t :: l, vs, h => by
    simp only [resultsV, Option.bind_eq_some_iff, Option.some.injEq] at h
    obtain ⟨v, h1, r, h2, rfl⟩ := h
    obtain ⟨vs', h3, h4⟩ := resultsV_run hE hR ht h2
    obtain ⟨v', h5, h6⟩ := ht t v h1
    refine ⟨v' :: vs', ?_, .cons h6 h4⟩
    have : tmps.getD t undef = v' := by simp [Array.getD_eq_getD_getElem?, h5]
    simp only [List.mapM_cons, Sem.run_bind, Sem.run_pure, Result.andThen_ok, this, h3]
  | .cell x t :: l, vs, h => by
    simp only [resultsV, Option.bind_eq_some_iff, Option.some.injEq] at h
    obtain ⟨xv, h1, v, h2, r, h3, rfl⟩ := h
    obtain ⟨vs', h4, h5⟩ := resultsV_run hE hR ht h3
    obtain ⟨x', h6, h7⟩ := ht x xv h1
    obtain ⟨v', h8, h9⟩ := loadVar_run hE hR h2 h7
    refine ⟨v' :: vs', ?_, .cons h9 h5⟩
    have : tmps.getD x undef = x' := by simp [Array.getD_eq_getD_getElem?, h6]
    simp only [Sem.run_bind] at h8
    simp only [List.mapM_cons, Sem.run_bind, this, h8, Result.andThen_ok, h4, Sem.run_pure]
theorem results_sim (hE : EnvOk E) (hR : Rel B lo0 m H w) {T : Tr Value} {tmps : Array Value} (ht : TRel m T tmps) {fn : Func} {vs : List Value} (h : resultsV E H T fn.results.toList = some vs) :
    ∃ v', (results fn tmps).run E.P w = .ok v' w ∧ VRel m (packV vs) v' := by
  obtain ⟨vs', h1, h2⟩ := resultsV_run hE hR ht h
  have hrun : (results fn tmps).run E.P w = .ok (if h : vs'.toArray.size = 1 then vs'.toArray[0] else .tuple vs'.toArray) w := by
    unfold results
    rw [Array.mapM_eq_mapM_toList]
    simp only [Sem.run_bind, map_eq_pure_bind, Sem.run_pure]
    erw [h1]
    rfl
  refine ⟨_, hrun, ?_⟩
  match vs, vs', h2 with
  | [], vs', h2 => rw [h2.inv_nil]; exact .of_tuple (.nil m)
  | [v], vs', h2 =>
    obtain ⟨v', r, rfl, h3, h4⟩ := h2.inv_cons
    rw [h4.inv_nil]
    exact h3
  | v₁ :: v₂ :: l, vs', h2 =>
    have : ¬ vs'.toArray.size = 1 := by
      have := h2.1
      simp at this ⊢; omega
    rw [dif_neg this]
    exact .of_tuple h2
theorem good_drop (hR : Rel B lo0 m H w) {r : Nat} {p : Spot} {o : AObj} {O : Obj} {H' : Heap} (hm : m r = some p) (hr : H.lo ≤ r) (ho : H.objs.get r = some o) (hno : ∀ c g t, o ≠ .row c g t)
    (hn : H'.next = H.next) (hl : H'.lo = H.lo) (hg : H'.grps = H.grps) (hd : H'.objs = H.objs.del r) : Good B lo0 m H w m H' (setBlk w p.blk O) := by
  refine Good.upd hR (o' := .map []) hm hr ho hn hl (fun j x hx => ?_) (fun g l h => .inl (by rw [hg] at h; exact h)) (fun j q x hj hq hx hb => ?_) (fun c g t h => by cases h) (fun h => ?_) (fun b hb => setBlk_other _ hb) (setBlk_size _) ⟨rfl, rfl⟩
  · rw [hd] at hx
    exact .inr (Tr.get_del hx)
  · rw [hd] at hx
    have h1 := hR.sep r j p q o x (fun h => hj h.symm) (Nat.le_trans hR.lo hr) hm hq ho (Tr.get_del hx).2 hb.symm
    cases o with
    | row c g t => exact hno c g t rfl
    | _ => exact h1
  · rw [hd] at h
    exact absurd rfl (Tr.get_del h).1
theorem marks_leave {P : Program} {fn : Func} {tmps : Array Value} {R : Ending → World → Prop} : ∀ (marks : List Nat) (defers : List Deferred) (H : Heap) (w : World) (t : Tr AObj), MRel m marks defers → Rel B lo0 m H w →
    killMarks H.lo H.objs marks = some t → (∀ w', Good B lo0 m H w m { objs := t, grps := H.grps, next := H.next, lo := H.lo } w' → LeavesIn Fence.wide 0 P fn tmps R [] .returning w') → LeavesInM Fence.wide 0 P fn tmps R defers .returning w
  | [], [], H, w, t, _, hR, hk, hq => by
    simp only [killMarks, Option.some.injEq] at hk
    subst hk
    exact hq w (.refl hR)
  | r :: marks, d :: defers, H, w, t, ⟨⟨p, h1, h2⟩, h3⟩, hR, hk, hq => by
    simp only [killMarks] at hk
    cases ho : H.objs.get r with
    | none => rw [ho] at hk; simp at hk
    | some o =>
      rw [ho] at hk
      cases o <;> simp only [reduceCtorEq] at hk
      obtain ⟨h4, h5⟩ := beq_cond hk
      have hlo : H.lo ≤ r := by simpa using h4
      have hb : w.heap[p.blk]? = some (.deferred (some [])) := hR.obj r p _ h1 ho
      have hg := good_drop (O := .deferred none) (H' := { objs := H.objs.del r, grps := H.grps, next := H.next, lo := H.lo }) hR h1 hlo ho (fun c g t h => by cases h) rfl rfl rfl rfl
      refine ⟨by simp, .inl ⟨p.blk, setBlk w p.blk (.deferred none), h2, ?_, ?_⟩⟩
      · simp only [Instr.takeDeferred, Sem.run_bind, getObj_run hb (fun c e f h => by cases h), Result.andThen_ok, setObj_run hb (fun c e f h => by cases h), Sem.run_pure]
      · exact marks_leave marks defers _ _ t h3 hg.rel h5 fun w' hw' => hq w' (hg.trans hw')
end
end Go.AM

namespace Go.AM
variable [Maps] {H H' H'' : Heap} {E : Env}
structure Low (H H' : Heap) : Prop where
  lo : H'.lo = H.lo
  nxt : H.next ≤ H'.next
  low : ∀ r o, r < H.lo → H'.objs.get r = some o → H.objs.get r = some o
theorem Low.refl (H : Heap) : Low H H := ⟨rfl, Nat.le_refl _, fun _ _ _ h => h⟩
theorem Low.trans (h : Low H H') (h' : Low H' H'') : Low H H'' :=
  ⟨h'.lo.trans h.lo, Nat.le_trans h.nxt h'.nxt, fun r o hr ho => h.low r o hr (h'.low r o (by rw [h.lo]; exact hr) ho)⟩
theorem Low.ok (h : Low H H') (hl : H.lo ≤ H.next) : H'.lo ≤ H'.next := by rw [h.lo]; exact Nat.le_trans hl h.nxt
theorem low_add (hl : H.lo ≤ H.next) (o : AObj) : Low H (H.add o) := by
  refine ⟨add_lo H o, by rw [add_next]; omega, fun r x hr hx => ?_⟩
  rcases get_add hx with ⟨h, _⟩ | ⟨_, h⟩
  · omega
  · exact h
theorem low_setObj {r : Nat} (hr : H.lo ≤ r) (o : AObj) : Low H (H.setObj r o) := by
  refine ⟨by simp [Heap.setObj, Tr.force_eq], by simp [Heap.setObj, Tr.force_eq], fun j x hj hx => ?_⟩
  simp only [Heap.setObj, Tr.force_eq] at hx
  rcases Tr.get_set hx with ⟨h, _⟩ | ⟨_, h⟩
  · omega
  · exact h
theorem low_write {r o : Nat} {new : List Value} (h : H.write r o new = some H') : Low H H' := by
  obtain ⟨cells, grp, h1, _, _, _, h5, h6, h7⟩ := Heap.write_inv h
  refine ⟨h6, by omega, fun j x hj hx => ?_⟩
  cases grp with
  | none =>
    rcases h7.1 j x hx with ⟨h, _⟩ | ⟨_, h⟩
    · omega
    · exact h
  | some gz =>
    obtain ⟨old, _, h8, _⟩ := h7
    rcases h8 j x hx with ⟨h, _⟩ | ⟨_, _, h⟩
    · omega
    · exact h
theorem low_setMap {r : Nat} {es : List (Value × Value)} (h : H.setMap r es = some H') : Low H H' := by
  obtain ⟨h1, h2, h3, _, h4⟩ := setMap_inv h
  refine ⟨h3, by omega, fun j x hj hx => ?_⟩
  rcases h4 j x hx with ⟨h, _⟩ | ⟨_, h⟩
  · omega
  · exact h
theorem low_newApp (hl : H.lo ≤ H.next) (z : Nat) (cells : List Value) : Low H (H.newApp z cells) := by
  refine ⟨by simp [Heap.newApp, forceNat_eq, Tr.force_eq], by simp [Heap.newApp, forceNat_eq, Tr.force_eq], fun j x hj hx => ?_⟩
  simp only [Heap.newApp, forceNat_eq, Tr.force_eq] at hx
  rcases Tr.get_set hx with ⟨h, _⟩ | ⟨_, h⟩
  · omega
  · exact h
theorem low_grow (hl : H.lo ≤ H.next) {r : Nat} {c : List Value} {g z : Nat} {new : List Value} (hr : H.lo ≤ r) (h : H.grow r c g z new = some H') : Low H H' := by
  unfold Heap.grow at h
  split at h
  · simp at h
  · simp only [forceNat_eq, Tr.force_eq, Option.some.injEq] at h
    subst h
    refine ⟨rfl, by simp, fun j x hj hx => ?_⟩
    rcases Tr.get_set hx with ⟨h, _⟩ | ⟨_, h⟩
    · omega
    · rcases Tr.get_set h with ⟨h, _⟩ | ⟨_, h⟩
      · omega
      · exact h
theorem low_append (hl : H.lo ≤ H.next) {e : TypeId} {s v : Value} {k : Nat} {new : List Value} (h : appendV E H e s k new = some (v, H')) : Low H H' := by
  unfold appendV at h
  simp only [Option.bind_eq_some_iff] at h
  obtain ⟨i, _, h⟩ := h
  split at h
  · cases hb : Nat.ble _ _ with
    | true => rw [hb] at h; simp only [cond_true, Option.some.injEq, Prod.mk.injEq] at h; rw [← h.2]; exact .refl H
    | false =>
      rw [hb] at h
      obtain ⟨_, h⟩ := bne_cond h
      simp only [Option.some.injEq, Prod.mk.injEq] at h
      rw [← h.2]; exact low_newApp hl _ _
  · cases hb : Nat.ble _ _ with
    | true =>
      rw [hb] at h
      simp only [cond_true] at h
      cases hk : Nat.beq k 0 with
      | true => rw [hk] at h; simp only [cond_true, Option.some.injEq, Prod.mk.injEq] at h; rw [← h.2]; exact .refl H
      | false =>
        rw [hk] at h
        simp only [cond_false, Option.bind_eq_some_iff, Option.some.injEq, Prod.mk.injEq] at h
        obtain ⟨H1, h1, _, rfl⟩ := h
        exact low_write h1
    | false =>
      rw [hb] at h
      simp only [cond_false] at h
      obtain ⟨_, h⟩ := bne_cond h
      split at h
      · simp only [Option.bind_eq_some_iff, Option.some.injEq, Prod.mk.injEq] at h
        obtain ⟨l, _, _, rfl⟩ := h
        exact low_newApp hl _ _
      · obtain ⟨h1, h⟩ := beq_cond h
        simp only [Option.bind_eq_some_iff, Option.some.injEq, Prod.mk.injEq] at h
        obtain ⟨l, _, H1, h2, _, rfl⟩ := h
        simp only [Bool.and_eq_true, Nat.ble_eq] at h1
        exact low_grow hl h1.1.1.2 h2
      · simp at h
  · simp at h
theorem low_delete {t : TypeId} {x k : Value} (h : deleteV E H t x k = some H') : Low H H' := by
  simp only [deleteV, Option.bind_eq_some_iff] at h
  obtain ⟨i, _, h⟩ := h
  split at h
  · obtain ⟨_, h⟩ := bne_cond h
    simp only [Option.bind_eq_some_iff] at h
    obtain ⟨p, _, f, _, h⟩ := h
    split at h
    · obtain ⟨g1, g2, g3, g4, g5⟩ := setMapG_inv h
      exact ⟨g3, by omega, fun r o hr ho => by
        rcases g5 r o ho with ⟨rfl, _⟩ | ⟨_, h⟩
        · omega
        · exact h⟩
    · simp only [Option.some.injEq] at h
      rw [← h]; exact .refl _
  · simp at h
theorem low_builtin (hl : H.lo ≤ H.next) {b : Builtin} {ts : List TypeId} {args : List Value} {v : Value} (h : builtinV E H b ts args = some (v, H')) : Low H H' := by
  have still : ∀ {x : Value}, some (x, H) = some (v, H') → Low H H' := fun h => by
    simp only [Option.some.injEq, Prod.mk.injEq] at h
    rw [← h.2]; exact .refl H
  unfold builtinV at h
  split at h
  · simp only [Option.bind_eq_some_iff] at h
    obtain ⟨i, _, h⟩ := h
    split at h <;> first | exact still h | (split at h <;> first | exact still h | simp at h) | simp at h
  · simp only [Option.bind_eq_some_iff] at h
    obtain ⟨x, _, h⟩ := h
    exact still h
  · simp only [Option.bind_eq_some_iff] at h
    obtain ⟨x, _, h⟩ := h
    exact still h
  · simp only [Option.bind_eq_some_iff] at h
    obtain ⟨i, _, i', _, h⟩ := h
    split at h
    · split at h
      · simp only [Option.bind_eq_some_iff] at h
        obtain ⟨n, _, l, _, j, _, h⟩ := h
        exact low_append hl (beq_cond h).2
      · simp only [Option.bind_eq_some_iff] at h
        obtain ⟨n, _, l, _, h⟩ := h
        exact low_append hl h
      · simp at h
    · simp at h
  · simp only [Option.bind_eq_some_iff] at h
    obtain ⟨i, _, h⟩ := h
    split at h
    · simp only [Option.bind_eq_some_iff] at h
      obtain ⟨z, _, l, _, h⟩ := h
      split at h
      · exact still h
      · simp only [Option.bind_eq_some_iff, Option.some.injEq, Prod.mk.injEq] at h
        obtain ⟨H1, h1, _, rfl⟩ := h
        exact low_write h1
      · simp at h
    · simp at h
  · simp only [Option.bind_eq_some_iff, Option.some.injEq, Prod.mk.injEq] at h
    obtain ⟨H1, h1, _, rfl⟩ := h
    exact low_delete h1
  · simp only [Option.bind_eq_some_iff] at h
    obtain ⟨i, _, h⟩ := h
    split at h
    · exact still h
    · simp only [Option.bind_eq_some_iff, Option.some.injEq, Prod.mk.injEq] at h
      obtain ⟨l, _, H1, h1, _, rfl⟩ := h
      exact low_write h1
    · simp at h
  · simp at h
def CallLow (call : Caller) : Prop := ∀ f args H v H', H.lo ≤ H.next → call f args H = some (v, H') → Low H H'
theorem low_exOp {call : Caller} (hc : CallLow call) (hl : H.lo ≤ H.next) {T : Tr Value} {o : Oper} {v : Value} (h : exOp E call T o H = some (v, H')) : Low H H' := by
  have still : ∀ {x : Value}, some (x, H) = some (v, H') → Low H H' := fun h => by
    simp only [Option.some.injEq, Prod.mk.injEq] at h
    rw [← h.2]; exact .refl H
  have add : ∀ {x : Value} {ob : AObj}, some (x, H.add ob) = some (v, H') → Low H H' := fun h => by
    simp only [Option.some.injEq, Prod.mk.injEq] at h
    rw [← h.2]; exact low_add hl _
  unfold exOp at h
  cases ho : o.op with
  | store t x y =>
    simp only [ho, Option.bind_eq_some_iff, Option.some.injEq, Prod.mk.injEq] at h
    obtain ⟨u, h1, u2, h2, H2, h3, rfl, rfl⟩ := h
    unfold storeV at h3
    split at h3
    · simp only [Option.bind_eq_some_iff] at h3
      obtain ⟨n, _, h3⟩ := h3
      exact low_write (beq_cond h3).2
    · simp at h3
  | mapUpdate t x k y =>
    simp only [ho, Option.bind_eq_some_iff, Option.some.injEq, Prod.mk.injEq] at h
    obtain ⟨u, h1, u2, h2, u3, h3, H2, h4, rfl, rfl⟩ := h
    unfold mapUpdateV at h4
    simp only [Option.bind_eq_some_iff] at h4
    obtain ⟨i, _, h4⟩ := h4
    split at h4
    · obtain ⟨_, h4⟩ := bne_cond h4
      split at h4
      · simp only [Option.bind_eq_some_iff] at h4
        obtain ⟨f, _, h4⟩ := h4
        split at h4
        · exact low_setMap h4
        · exact low_setMap h4
      · simp at h4
    · simp at h4
  | makeSlice t l c =>
    simp only [ho, Option.bind_eq_some_iff] at h
    obtain ⟨u, h1, u2, h2, h3⟩ := h
    unfold makeSliceV at h3
    simp only [Option.bind_eq_some_iff] at h3
    obtain ⟨i, _, h3⟩ := h3
    split at h3
    · split at h3
      · simp only [Option.bind_eq_some_iff] at h3
        obtain ⟨j, _, z, _, h3⟩ := h3
        exact add (beq_cond h3).2
      · simp at h3
    · simp at h3
  | call c =>
    simp only [ho, Option.bind_eq_some_iff] at h
    obtain ⟨args, h1, h⟩ := h
    cases hcal : c.callee with
    | builtin b => simp only [hcal] at h; exact low_builtin hl h
    | value f =>
      simp only [hcal, Option.bind_eq_some_iff] at h
      obtain ⟨fv, h2, h3⟩ := h
      exact hc _ _ _ _ _ hl h3
    | invoke x name =>
      simp only [hcal, Option.bind_eq_some_iff] at h
      obtain ⟨xv, h2, mm, h3, h4⟩ := h
      exact hc _ _ _ _ _ hl h4
  | buildSlice t len parts =>
    simp only [ho, Option.bind_eq_some_iff] at h
    obtain ⟨i, h1, h⟩ := h
    split at h
    · simp only [Option.bind_eq_some_iff] at h
      obtain ⟨j, _, z, _, h⟩ := h
      obtain ⟨_, h⟩ := bne_cond h
      simp only [Option.bind_eq_some_iff] at h
      obtain ⟨ps, _, l, _, h⟩ := h
      exact add h
    · simp at h
  | range t x =>
    simp only [ho, Option.bind_eq_some_iff] at h
    obtain ⟨u, h1, i, h2, ob, _, h⟩ := h
    exact add h
  | next it str =>
    cases str with
    | false =>
      simp only [ho, Option.bind_eq_some_iff] at h
      obtain ⟨u, h1, h⟩ := h
      unfold nextG at h
      split at h
      · split at h
        · obtain ⟨hb, h⟩ := bne_cond h
          split at h
          · obtain ⟨_, h⟩ := bne_cond h
            split at h
            · exact still h
            · obtain ⟨_, h⟩ := beq_cond h
              simp only [Option.some.injEq, Prod.mk.injEq] at h
              rw [← h.2]
              exact low_setObj (by simpa using hb) _
            · simp at h
          · simp at h
        · simp at h
      · simp at h
    | true =>
      simp only [ho, Option.bind_eq_some_iff] at h
      obtain ⟨u, h1, h⟩ := h
      unfold nextV at h
      split at h
      · split at h
        · obtain ⟨hb, h⟩ := bne_cond h
          split at h
          · exact still h
          · simp only [forceNat_eq, Option.some.injEq, Prod.mk.injEq] at h
            rw [← h.2]
            exact low_setObj (by simpa using hb) _
        · simp at h
      · simp at h
  | alloc t =>
    simp only [ho, Option.bind_eq_some_iff] at h
    obtain ⟨i, _, z, _, h⟩ := h
    exact add h
  | box t x =>
    simp only [ho, Option.bind_eq_some_iff] at h
    obtain ⟨i, _, h⟩ := h
    exact add h
  | makeMap t r =>
    cases r with
    | none => simp only [ho] at h; exact add h
    | some x => simp [ho] at h
  | makeFunc fn first captured =>
    simp only [ho] at h
    split at h
    · simp at h
    · simp only [Option.bind_eq_some_iff] at h
      obtain ⟨a, _, b, _, h⟩ := h
      exact still h
  | pick c x y =>
    simp only [ho, Option.bind_eq_some_iff] at h
    obtain ⟨u, _, h⟩ := h
    split at h
    · simp only [Option.bind_eq_some_iff] at h
      obtain ⟨u, _, h⟩ := h
      exact still h
    · simp only [Option.bind_eq_some_iff] at h
      obtain ⟨u, _, h⟩ := h
      exact still h
    · simp at h
  | nilCheck x =>
    simp only [ho, Option.bind_eq_some_iff] at h
    obtain ⟨u, _, h⟩ := h
    split at h
    all_goals first
      | exact still h
      | (simp at h; done)
      | (split at h
         · simp only [Option.bind_eq_some_iff] at h
           obtain ⟨_, _, h⟩ := h
           exact still h
         · simp at h)
  | makeInterface t x =>
    simp only [ho, Option.bind_eq_some_iff] at h
    obtain ⟨u, _, i, _, h⟩ := h
    split at h <;> first | exact still h | simp at h
  | extract t ix =>
    simp only [ho, Option.bind_eq_some_iff] at h
    obtain ⟨u, _, h⟩ := h
    split at h
    · simp only [Option.bind_eq_some_iff] at h
      obtain ⟨u, _, h⟩ := h
      exact still h
    · simp at h
  | _ =>
    first
    | (simp only [ho, Option.bind_eq_some_iff] at h; obtain ⟨u, _, h⟩ := h; exact still h)
    | (simp only [ho, Option.bind_eq_some_iff] at h; obtain ⟨u, _, u2, _, h⟩ := h; exact still h)
    | (simp only [ho, Option.bind_eq_some_iff] at h; obtain ⟨u, _, u2, _, u3, _, h⟩ := h; exact still h)
    | (simp only [ho, Option.bind_eq_some_iff] at h; obtain ⟨u, _, u2, _, u3, _, u4, _, u5, _, h⟩ := h; exact still h)
    | (simp [ho] at h)
theorem low_exOps {call : Caller} (hc : CallLow call) {all : List Oper} {size : Nat} : ∀ (l : List Oper) {T T' : Tr Value} {H H' : Heap}, H.lo ≤ H.next → exOps E call all size l T H = some (T', H') → Low H H'
  | [], T, T', H, H', _, h => by
    simp only [exOps, Option.some.injEq, Prod.mk.injEq] at h
    rw [← h.2]; exact .refl H
  | o :: l, T, T', H, H', hl, h => by
    simp only [exOps, forceH_eq] at h
    split at h
    · simp at h
    · simp only [Option.bind_eq_some_iff] at h
      obtain ⟨r, h1, T1, _, h3⟩ := h
      have h4 := low_exOp hc hl h1
      exact h4.trans (low_exOps hc l (h4.ok hl) h3)
    · simp only [Option.bind_eq_some_iff] at h
      obtain ⟨T1, _, h3⟩ := h
      exact low_exOps hc l hl h3
theorem low_up (hl : H.lo ≤ H.next) (b : Bool) (h : Low { objs := H.objs, grps := H.grps, next := H.next, lo := bif b then H.next else H.lo } H') : Low H { objs := H'.objs, grps := H'.grps, next := H'.next, lo := H.lo } :=
  ⟨rfl, h.nxt, fun r o hr ho => h.low r o (by cases b <;> simp <;> omega) ho⟩
theorem low_exDraw {call : Caller} (hc : CallLow call) {all : List Oper} {size : Nat} : ∀ (l : List Oper) (infos : List Info) {T T' : Tr Value} {H H' : Heap}, H.lo ≤ H.next → exDraw E call all size l infos T H = some (T', H') → Low H H'
  | [], _, T, T', H, H', _, h => by
    simp only [exDraw, Option.some.injEq, Prod.mk.injEq] at h
    rw [← h.2]; exact .refl H
  | o :: l, [], T, T', H, H', hl, h => by simp [exDraw] at h
  | o :: l, i :: infos, T, T', H, H', hl, h => by
    simp only [exDraw, forceH_eq] at h
    split at h
    · simp at h
    · obtain ⟨_, h⟩ := beq_cond h
      simp only [Option.bind_eq_some_iff] at h
      obtain ⟨r, h1, h⟩ := h
      obtain ⟨_, h⟩ := beq_cond h
      simp only [Option.bind_eq_some_iff] at h
      obtain ⟨T1, _, h3⟩ := h
      have h4 := low_up hl i.grow (low_exOp hc (by cases i.grow <;> simp <;> omega) h1)
      exact h4.trans (low_exDraw hc l infos (h4.ok hl) h3)
    · simp only [Option.bind_eq_some_iff] at h
      obtain ⟨T1, _, h3⟩ := h
      exact low_exDraw hc l infos hl h3
theorem low_drawV {call : Caller} (hc : CallLow call) {ops : Array Oper} {size : Nat} {T T' : Tr Value} (hl : H.lo ≤ H.next) (h : drawV E call ops size T H = some (T', H')) : Low H H' := by
  unfold drawV at h
  obtain ⟨_, h⟩ := bne_cond h
  simp only [Option.bind_eq_some_iff] at h
  obtain ⟨infos, _, r, h1, h2⟩ := h
  have h3 := (beq_cond h2).2
  simp only [Option.some.injEq] at h3
  subst h3
  exact low_exDraw hc _ infos hl h1
theorem low_killMarks {lo : Nat} : ∀ {l : List Nat} {t t' : Tr AObj}, killMarks lo t l = some t' → ∀ r o, r < lo → t'.get r = some o → t.get r = some o
  | [], t, t', h, r, o, _, ho => by
    simp only [killMarks, Option.some.injEq] at h
    rw [h]; exact ho
  | k :: l, t, t', h, r, o, hr, ho => by
    simp only [killMarks] at h
    split at h
    · obtain ⟨_, h⟩ := beq_cond h
      exact (Tr.get_del (low_killMarks h r o hr ho)).2
    · simp at h
theorem low_setLoop {l : Nat} {b : Bool} {st : LoopState} {pend : Option Code} (hl : H.lo ≤ l) (h : H.setLoop l b st pend = some H') : Low H H' := by
  unfold Heap.setLoop at h
  split at h
  · split at h
    · simp only [Option.some.injEq] at h; rw [← h]; exact low_setObj hl _
    · simp at h
    · simp only [Option.some.injEq] at h; rw [← h]; exact low_setObj hl _
  · simp at h
def RunLow (run : Code → Fr → Heap → Option (Ex × Fr × Heap)) : Prop := ∀ c fr H ex fr' H', H.lo ≤ H.next → run c fr H = some (ex, fr', H') → Low H H'
theorem low_callBody {run : Code → Fr → Heap → Option (Ex × Fr × Heap)} (hr : RunLow run) : CallLow (callBody E run) := by
  intro f args H v H' hl h
  simp only [callBody, Option.bind_eq_some_iff] at h
  obtain ⟨⟨tf, targs⟩, ht, h⟩ := h
  clear ht
  simp only at h
  split at h
  · simp only [Option.bind_eq_some_iff] at h
    obtain ⟨fn, k1, h⟩ := h
    split at h
    · simp only [Option.bind_eq_some_iff, Option.some.injEq, Prod.mk.injEq] at h
      obtain ⟨_, _, _, rfl⟩ := h
      exact .refl _
    obtain ⟨k3, h⟩ := bne_cond h
    simp only [Option.bind_eq_some_iff] at h
    obtain ⟨⟨ex, fr', H₁⟩, k4, h⟩ := h
    have h1 := hr _ _ _ _ _ _ hl k4
    have h6 : ∃ t, killMarks H.lo H₁.objs fr'.marks = some t ∧ H' = { objs := t, grps := H₁.grps, next := H₁.next, lo := H₁.lo } := by
      cases ex with
      | exit id => simp at h
      | _ =>
        simp only [Option.bind_eq_some_iff, Tr.force_eq, Option.some.injEq, Prod.mk.injEq] at h
        obtain ⟨t, a1, vs, a2, a3, a4⟩ := h
        exact ⟨t, a1, a4.symm⟩
    obtain ⟨t, h7, rfl⟩ := h6
    exact ⟨h1.lo, h1.nxt, fun r o hr ho => h1.low r o hr (low_killMarks h7 r o hr ho)⟩
  · rename_i l
    split at h
    · obtain ⟨k1, h⟩ := bne_cond h
      have hlo : H.lo ≤ l := by simpa using k1
      simp only [Option.bind_eq_some_iff] at h
      obtain ⟨T', k2, ⟨ex₁, fr₁, H₁⟩, k3, h⟩ := h
      have g1 := hr _ _ _ _ _ _ hl k3
      cases ex₁ with
      | normal =>
        simp only [Option.bind_eq_some_iff] at h
        obtain ⟨H₂, k4, ⟨ex, fr₂, H₃⟩, k5, h⟩ := h
        have g2 := g1.trans (low_setLoop (by rw [g1.lo]; exact hlo) k4)
        have g3 := g2.trans (hr _ _ _ _ _ _ (g2.ok hl) k5)
        have key : ∀ {b : Bool} {st : LoopState} {pend : Option Code}, H₃.setLoop l b st pend = some H' → Low H H' := fun h => g3.trans (low_setLoop (by rw [g3.lo]; exact hlo) h)
        cases ex with
        | normal =>
          simp only [Option.bind_eq_some_iff, Option.some.injEq, Prod.mk.injEq] at h
          obtain ⟨H₄, k6, _, rfl⟩ := h
          exact key k6
        | ret =>
          simp only [Option.bind_eq_some_iff, Option.some.injEq, Prod.mk.injEq] at h
          obtain ⟨H₄, k6, _, rfl⟩ := h
          exact key k6
        | exit id =>
          simp only [Option.bind_eq_some_iff, Option.some.injEq, Prod.mk.injEq] at h
          obtain ⟨H₄, k6, _, rfl⟩ := h
          exact key k6
      | _ => simp at h
    · simp at h
  · simp at h
theorem low_callWith (hO : CallLow E.orc) {run : Code → Fr → Heap → Option (Ex × Fr × Heap)} (hr : RunLow run) : CallLow (callWith E run) := by
  intro f args H v H' hl h
  unfold callWith at h
  cases ho : E.orc f args H with
  | some r =>
    rw [ho] at h
    simp only [Option.some.injEq] at h
    subst h
    exact hO f args H v H' hl ho
  | none =>
    rw [ho] at h
    exact low_callBody hr f args H v H' hl h
theorem low_runHead (hO : CallLow E.orc) {run : Code → Fr → Heap → Option (Ex × Fr × Heap)} (hr : RunLow run) {v : Value} : ∀ (c : Code) {fr fr' : Fr} {H H' : Heap} {ex : Ex}, H.lo ≤ H.next → runHead E run v c fr H = some (ex, fr', H') → Low H H'
  | .seq a b, fr, fr', H, H', ex, hl, h => by
    simp only [runHead, Option.bind_eq_some_iff] at h
    obtain ⟨⟨ex₁, fr₁, H₁⟩, h1, h2⟩ := h
    have g1 := low_runHead hO hr a hl h1
    cases ex₁ with
    | normal => exact g1.trans (hr _ _ _ _ _ _ (g1.ok hl) h2)
    | exit id => simp only [Option.some.injEq, Prod.mk.injEq] at h2; rw [← h2.2.2]; exact g1
    | ret => simp only [Option.some.injEq, Prod.mk.injEq] at h2; rw [← h2.2.2]; exact g1
  | .region id ops d, fr, fr', H, H', ex, hl, h => by
    simp only [runHead] at h
    split at h
    · simp only [Option.bind_eq_some_iff, Option.some.injEq, Prod.mk.injEq] at h
      obtain ⟨T, _, ⟨T', H₁⟩, h2, _, _, rfl⟩ := h
      exact low_exOps (low_callWith hO hr) _ hl h2
    · simp at h
  | .skip, _, _, _, _, _, _, h | .cond .., _, _, _, _, _, _, h | .block .., _, _, _, _, _, _, h | .loop .., _, _, _, _, _, _, h | .rangeFunc .., _, _, _, _, _, _, h | .exit .., _, _, _, _, _, _, h | .scope .., _, _, _, _, _, _, h
  | .label .., _, _, _, _, _, _, h | .goto .., _, _, _, _, _, _, h | .ret, _, _, _, _, _, _, h | .refuse .., _, _, _, _, _, _, h => by simp [runHead] at h
theorem low_runWith (hO : CallLow E.orc) {run : Code → Fr → Heap → Option (Ex × Fr × Heap)} (hr : RunLow run) : RunLow (runWith E run) := by
  intro c fr H ex fr' H' hl h
  have still : ∀ {a : Ex} {b : Fr}, some (a, b, H) = some (ex, fr', H') → Low H H' := fun h => by
    simp only [Option.some.injEq, Prod.mk.injEq] at h
    rw [← h.2.2]; exact .refl H
  have thn : ∀ {H₁ : Heap} {a : Ex} {b : Fr}, Low H H₁ → some (a, b, H₁) = some (ex, fr', H') → Low H H' := fun g h => by
    simp only [Option.some.injEq, Prod.mk.injEq] at h
    rw [← h.2.2]; exact g
  cases c with
  | skip => exact still h
  | label l => exact still h
  | exit id => exact still h
  | ret => exact still h
  | region id ops draw =>
    cases draw with
    | false =>
      simp only [runWith, Option.bind_eq_some_iff] at h
      obtain ⟨⟨T', H₁⟩, h1, h2⟩ := h
      exact thn (low_exOps (low_callWith hO hr) _ hl h1) h2
    | true =>
      simp only [runWith, Option.bind_eq_some_iff] at h
      obtain ⟨⟨T', H₁⟩, h1, h2⟩ := h
      exact thn (low_drawV (low_callWith hO hr) hl h1) h2
  | seq a b =>
    simp only [runWith, Option.bind_eq_some_iff] at h
    obtain ⟨⟨ex₁, fr₁, H₁⟩, h1, h2⟩ := h
    have g1 := hr _ _ _ _ _ _ hl h1
    cases ex₁ with
    | normal => exact g1.trans (hr _ _ _ _ _ _ (g1.ok hl) h2)
    | exit id => exact thn g1 h2
    | ret => exact thn g1 h2
  | cond x p q =>
    simp only [runWith, Option.bind_eq_some_iff] at h
    obtain ⟨v, _, h2⟩ := h
    split at h2
    · exact hr _ _ _ _ _ _ hl h2
    · exact hr _ _ _ _ _ _ hl h2
    · simp at h2
  | block id x =>
    simp only [runWith, Option.bind_eq_some_iff] at h
    obtain ⟨⟨ex₁, fr₁, H₁⟩, h1, h2⟩ := h
    have g1 := hr _ _ _ _ _ _ hl h1
    cases ex₁ with
    | exit i =>
      simp only at h2
      cases hb : Nat.beq i id with
      | true => rw [hb] at h2; exact thn g1 h2
      | false => rw [hb] at h2; exact thn g1 h2
    | normal => exact thn g1 h2
    | ret => exact thn g1 h2
  | loop a =>
    simp only [runWith] at h
    split at h
    · rename_i it₀ _
      cases hg : onG fr.T H it₀ with
      | true =>
        rw [hg] at h
        simp only [cond_true] at h
        unfold fewLoop at h
        simp only [Option.bind_eq_some_iff] at h
        obtain ⟨⟨ex₁, fr₁, H₁⟩, h1, h2⟩ := h
        have g1 := hr _ _ _ _ _ _ hl h1
        cases ex₁ with
        | normal =>
          simp only [Option.bind_eq_some_iff] at h2
          obtain ⟨⟨ex₂, fr₂, H₂⟩, h3, h4⟩ := h2
          have g2 := g1.trans (hr _ _ _ _ _ _ (g1.ok hl) h3)
          cases ex₂ with
          | normal => simp at h4
          | exit id => exact thn g2 h4
          | ret => exact thn g2 h4
        | exit id => exact thn g1 h2
        | ret => exact thn g1 h2
      | false =>
      rw [hg] at h
      simp only [cond_false] at h
      unfold mapLoop at h
      simp only [Tr.force_eq, Option.bind_eq_some_iff] at h
      obtain ⟨it, _, h⟩ := h
      split at h
      · split at h
        · simp only [Option.bind_eq_some_iff] at h
          obtain ⟨es, _, h⟩ := h
          obtain ⟨k, h⟩ := bne_cond h
          simp only [Option.bind_eq_some_iff] at h
          obtain ⟨o, _, h⟩ := h
          cases o with
          | some vs =>
            simp only [Option.some.injEq, Prod.mk.injEq] at h
            obtain ⟨rfl, rfl, rfl⟩ := h
            exact ⟨rfl, Nat.le_refl _, fun r o hr ho => (Tr.get_del ho).2⟩
          | none =>
          simp only [Option.bind_eq_some_iff] at h
          obtain ⟨⟨ex₁, fr₁, H₁⟩, h1, h2⟩ := h
          simp only [Bool.or_eq_false_iff, Bool.not_eq_false', Nat.ble_eq] at k
          have g1 := low_runHead (E := E) hO hr _ (H := { objs := H.objs.del _, grps := H.grps, next := H.next, lo := H.lo }) hl h1
          have g2 : Low H H₁ := ⟨g1.lo, g1.nxt, fun r o hr ho => (Tr.get_del (g1.low r o hr ho)).2⟩
          cases ex₁ with
          | normal => simp at h2
          | exit id => exact thn g2 h2
          | ret => exact thn g2 h2
        · simp at h
      · simp at h
    · simp only [Option.bind_eq_some_iff] at h
      obtain ⟨⟨ex₁, fr₁, H₁⟩, h1, h2⟩ := h
      have g1 := hr _ _ _ _ _ _ hl h1
      cases ex₁ with
      | normal => exact g1.trans (hr _ _ _ _ _ _ (g1.ok hl) h2)
      | exit id => exact thn g1 h2
      | ret => exact thn g1 h2
  | scope x => exact hr _ _ _ _ _ _ hl h
  | rangeFunc g ps assign body =>
    simp only [runWith] at h
    split at h
    · simp at h
    · simp only [Option.bind_eq_some_iff] at h
      obtain ⟨gv, _, h⟩ := h
      unfold rangeV at h
      simp only at h
      split at h
      · simp only [Option.bind_eq_some_iff] at h
        obtain ⟨⟨rv, H₃⟩, h2, h3⟩ := h
        have g1 := low_add hl .defers
        have g2 := g1.trans (low_add (g1.ok hl) (.loop .ready none fr.size fr.T ps.toList assign body H.next))
        have g3 := g2.trans (low_callBody hr _ _ _ _ _ (g2.ok hl) h2)
        have hlo : H₃.lo ≤ (H.add .defers).next := by rw [g3.lo, add_next]; omega
        simp only at h3
        split at h3
        · split at h3
          · simp at h3
          · split at h3
            · exact thn (g3.trans (low_setObj hlo _)) h3
            · have g4 : ∀ o, Low H (H₃.setObj (H.add .defers).next o) := fun o => g3.trans (low_setObj hlo o)
              split at h3
              · exact (g4 _).trans (hr _ _ _ _ _ _ ((g4 _).ok hl) h3)
              · exact (g4 _).trans (hr _ _ _ _ _ _ ((g4 _).ok hl) h3)
              · simp at h3
        · simp at h3
      · simp at h
  | _ => simp [runWith] at h
theorem low_run (hO : CallLow E.orc) : ∀ n, RunLow (run E n)
  | 0 => fun c fr H ex fr' H' _ h => by simp [run] at h
  | n + 1 => low_runWith hO (low_run hO n)
end Go.AM

namespace Go.AM
section
variable [Maps] {B lo0 : Nat} {m : Match} {H : Heap} {w : World} {E : Env}
theorem loop_inv {p : Spot} {wr : Bool} {st : LoopState} {pend : Option Code} {size : Nat} {T : Tr Value} {ps : List Tmp} {as bo : Code} {de : Nat} (ho : ObjRel wr m p w (.loop st pend size T ps as bo de)) :
    ∃ l : Loop, w.heap[p.blk]? = some (.loop l) ∧ l.state = st ∧ l.pending = pend ∧ l.tmps.size = size ∧ TRel m T l.tmps ∧ l.params.toList = ps ∧ l.assign = as ∧ l.body = bo := ho
theorem setLoop_good (hR : Rel B lo0 m H w) {l : Nat} {p : Spot} {ready : Bool} {st : LoopState} {pend : Option Code} {H' : Heap} (hm : m l = some p) (hl : H.lo ≤ l) (h : H.setLoop l ready st pend = some H') :
    ∃ L : Loop, w.heap[p.blk]? = some (.loop L) ∧ (ready = true → L.state = .ready) ∧ Good B lo0 m H w m H' (setBlk w p.blk (.loop { L with state := st, pending := bif ready then L.pending else pend })) := by
  unfold Heap.setLoop at h
  split at h
  · rename_i st₀ pend₀ size T ps as bo de ho
    obtain ⟨L, h1, h2, h3, h4, h5, h6, h7, h8⟩ := loop_inv (hR.obj l p _ hm ho)
    have hb : p.blk < w.heap.size := (hR.dom l p hm).2.1
    have key : ∀ pend', Good B lo0 m H w m (H.setObj l (.loop st pend' size T ps as bo de)) (setBlk w p.blk (.loop { L with state := st, pending := pend' })) := fun pend' => by
      refine Good.exchange hR hm hl ho (fun c g t h => by cases h) (fun c g t h => by cases h) (o' := .loop st pend' size T ps as bo de) ?_ ?_ ?_ (fun j x hx => ?_) ⟨_, setBlk_self _ hb, rfl, rfl, h4, h5, h6, h7, h8⟩
      · simp [Heap.setObj, Tr.force_eq]
      · simp [Heap.setObj, Tr.force_eq]
      · simp [Heap.setObj, Tr.force_eq]
      · simp only [Heap.setObj, Tr.force_eq] at hx
        exact Tr.get_set hx
    split at h
    · simp only [Option.some.injEq] at h
      subst h
      refine ⟨L, h1, fun _ => h2, ?_⟩
      have := key pend₀
      rw [← h3] at this
      exact h3 ▸ this
    · simp at h
    · simp only [Option.some.injEq] at h
      subst h
      exact ⟨L, h1, fun h => Bool.noConfusion h, key pend⟩
  · simp at h
end
section
variable {B lo0 : Nat} {m : Match} {w : World} {P : Program}
theorem getLoop_run {P : Program} {b : Nat} {L : Loop} (h : w.heap[b]? = some (.loop L)) : (Instr.getLoop b).run P w = .ok L w := by
  simp only [Instr.getLoop, Sem.run_bind, getObj_run h (fun c e f h => by cases h), Result.andThen_ok, Sem.run_pure]
theorem beginRound_run {P : Program} {b : Nat} {L : Loop} (h : w.heap[b]? = some (.loop L)) (hs : L.state = .ready) : (Instr.beginRound b).run P w = .ok () (setBlk w b (.loop { L with state := .busy, pending := L.pending })) := by
  simp only [Instr.beginRound, Sem.run_bind, getLoop_run h, Result.andThen_ok, setObj_run h (fun c e f h => by cases h), hs, Sem.run_pure]
theorem endRound_run {P : Program} {b : Nat} {L : Loop} (h : w.heap[b]? = some (.loop L)) (jump : Option Code) :
    (Instr.endRound b jump).run P w = .ok (.bool jump.isNone) (setBlk w b (.loop { L with state := if jump.isNone then .ready else .done, pending := jump })) := by
  simp only [Instr.endRound, Sem.run_bind, getLoop_run h, Result.andThen_ok, setObj_run h (fun c e f h => by cases h), Sem.run_pure]
end
section
variable [Maps] {B lo0 : Nat} {m : Match} {H : Heap} {w : World} {E : Env}
theorem params_rel {m : Match} {size : Nat} : ∀ {ps : List Tmp} {vs vs' : List Value} {T T' : Tr Value} {tmps : Array Value}, paramsT size ps vs T = some T' → LRel m vs vs' → TRel m T tmps → tmps.size = size →
    ps.length = vs.length ∧ TRel m T' ((ps.zip vs').foldl (fun tmps (x : Tmp × Value) => tmps.setIfInBounds x.1 x.2) tmps) ∧ ((ps.zip vs').foldl (fun tmps (x : Tmp × Value) => tmps.setIfInBounds x.1 x.2) tmps).size = size
  | [], [], vs', T, T', tmps, h, hv, ht, hs => by
    simp only [paramsT, Option.some.injEq] at h
    subst h
    exact ⟨rfl, by simpa using ht, by simpa using hs⟩
  | p :: ps, v :: vs, vs', T, T', tmps, h, hv, ht, hs => by
    obtain ⟨v', r, rfl, h1, h2⟩ := hv.inv_cons
    simp only [paramsT] at h
    obtain ⟨h3, h4⟩ := beq_cond h
    have hput : putT size T (some p) v = some (T.set p v) := by simp [putT, h3, Tr.force_eq]
    obtain ⟨q1, q2, _, _⟩ := putT_rel (a := { tmps := tmps, defers := [] }) hput ht hs h1
    obtain ⟨e1, e2, e3⟩ := params_rel h4 h2 q1 q2
    exact ⟨by simp [e1], e2, e3⟩
  | [], _ :: _, _, _, _, _, h, _, _, _ => by simp [paramsT] at h
  | _ :: _, [], _, _, _, _, h, _, _, _ => by simp [paramsT] at h
theorem enter_sim (hE : EnvOk E) {run : Code → Fr → Heap → Option (Ex × Fr × Heap)} (hrun : CodeSim E run) {g : FuncId} {fn : Func} {c : Code} {args : List Value} {args' : Array Value} {ex : Ex} {fr' : Fr} {H₁ : Heap} {t : Tr AObj} {vs : List Value}
    (h1 : E.fn.get g = some fn) (h2 : fn.body = some c) (h3 : args.length ≤ fn.ntmps) (h4 : run c { T := Tr.of args, size := fn.ntmps, marks := [], round := none } H = some (ex, fr', H₁)) (h5 : ∀ id, ex ≠ .exit id)
    (h6 : killMarks H.lo H₁.objs fr'.marks = some t) (h7 : resultsV E { objs := t, grps := H₁.grps, next := H₁.next, lo := H₁.lo } fr'.T fn.results.toList = some vs) (hR : Rel B lo0 m H w) (ha : LRel m args args'.toList) :
    Sim B lo0 E m H w (packV vs) { objs := t, grps := H₁.grps, next := H₁.next, lo := H₁.lo } ((callFunc g args').run E.P w) := by
  have hf := hE.fn g fn h1
  have hname : (fn.name == "runtime.NumGoroutine") = false := hE.num g fn h1
  have hrn : (callFunc g args').run E.P w = .ok (.enter g args') w := by
    simp only [callFunc, Sem.run_bind, run_program, Result.andThen_ok, hf, hname, h2, Bool.false_eq_true, if_false, Option.isNone_some, Sem.run_pure]
  rw [Sim, hrn]
  show CallsIn Fence.wide 0 E.P g args' w _
  refine callsIn_of_wp_marks hf h2 trivial ?_
  have hfr : FrRel m { T := Tr.of args, size := fn.ntmps, marks := [], round := none } { tmps := args' ++ Array.replicate (fn.ntmps - args'.size) undef, defers := [] } none := by
    refine ⟨fun t v hv => ?_, ?_, trivial, fun _ => rfl⟩
    · obtain ⟨v', e1, e2⟩ := ha.get (Tr.get_of hv)
      have : t < args'.size := by simpa using (List.getElem?_eq_some_iff.1 e1).1
      exact ⟨v', by rw [Array.getElem?_append_left this]; simpa using e1, e2⟩
    · have := ha.1
      simp at this ⊢; omega
  refine Go.wpIn_mono (hrun c _ H ex fr' H₁ h4 B lo0 m _ w none hR hfr) fun e a' w' hp => ?_
  obtain ⟨rfl, m', hg, hfr', _⟩ := hp
  have hleave : LeavesInM Fence.wide 0 E.P fn a'.tmps (fun e w'' => ∃ v, e = .returned v ∧ ∃ m'', Good B lo0 m H w m'' { objs := t, grps := H₁.grps, next := H₁.next, lo := H₁.lo } w'' ∧ VRel m'' (packV vs) v) a'.defers .returning w' := by
    rw [← hg.lo] at h6
    refine marks_leave fr'.marks a'.defers H₁ w' t hfr'.marks hg.rel h6 fun w'' hg' => ?_
    obtain ⟨v', r1, r2⟩ := results_sim hE hg'.rel hfr'.tmps h7
    exact ⟨v', r1, v', rfl, m', hg.trans hg', r2⟩
  cases ex with
  | normal => exact hleave
  | ret => exact hleave
  | exit id => exact absurd rfl (h5 id)
theorem round_sim {run : Code → Fr → Heap → Option (Ex × Fr × Heap)} (hrun : CodeSim E run) {l : Nat} {p : Spot} {pend : Option Code} {size : Nat} {T T' : Tr Value} {ps : List Tmp} {assign body : Code} {de : Nat} {args : List Value} {args' : Array Value}
    {fr₁ fr₂ : Fr} {H₁ H₂ H₃ H₄ : Heap} {ex : Ex} {b : Bool} {st : LoopState} {jump : Option Code}
    (hm : m l = some p) (hl : H.lo ≤ l) (h1 : H.objs.get l = some (.loop .ready pend size T ps assign body de)) (h2 : paramsT size ps args T = some T') (h3 : run assign { T := T', size, marks := [], round := some l } H = some (.normal, fr₁, H₁))
    (h4 : H₁.setLoop l true .busy none = some H₂) (h5 : run body fr₁ H₂ = some (ex, fr₂, H₃)) (h6 : H₃.setLoop l false st jump = some H₄)
    (hj : (ex = .normal ∧ jump = none ∧ b = true ∧ st = .ready) ∨ (ex = .ret ∧ jump = some .ret ∧ b = false ∧ st = .done) ∨ (∃ id, ex = .exit id ∧ jump = some (.exit id) ∧ b = false ∧ st = .done))
    (hR : Rel B lo0 m H w) (ha : LRel m args args'.toList) : Sim B lo0 E m H w (.bool b) H₄ ((Instr.yield p.blk args').run E.P w) := by
  obtain ⟨L, e1, _, _, e4, e5, e6, e7, e8⟩ := loop_inv (hR.obj l p _ hm h1)
  obtain ⟨f1, f2, f3⟩ := params_rel h2 ha e5 e4
  have hsz : ¬ args'.size ≠ L.params.size := by
    have := ha.1
    rw [← e6] at f1
    simp at this f1 ⊢; omega
  have hrn : (Instr.yield p.blk args').run E.P w = .ok (.round p.blk L.fn ((L.params.zip args').foldl (fun tmps (t, a) => tmps.setIfInBounds t a) L.tmps) L.assign L.body) w := by
    simp only [Instr.yield, Sem.run_bind, getLoop_run e1, Result.andThen_ok, hsz, if_false, Sem.run_pure]
  rw [Sim, hrn]
  show RoundIn Fence.wide 0 E.P _ _ _ _ _ w _
  have htm : ((L.params.zip args').foldl (fun tmps (x : Tmp × Value) => tmps.setIfInBounds x.1 x.2) L.tmps) = (ps.zip args'.toList).foldl (fun tmps (x : Tmp × Value) => tmps.setIfInBounds x.1 x.2) L.tmps := by
    rw [← Array.foldl_toList, Array.toList_zip, e6]
  refine roundIn_of_wpIn trivial ?_
  rw [e7, e8]
  have hfr : FrRel m { T := T', size, marks := [], round := some l } { tmps := (L.params.zip args').foldl (fun tmps (t, a) => tmps.setIfInBounds t a) L.tmps, defers := [] } (some p.blk) := by
    refine ⟨?_, ?_, trivial, fun h => by cases h⟩
    · show TRel m T' ((L.params.zip args').foldl (fun tmps (x : Tmp × Value) => tmps.setIfInBounds x.1 x.2) L.tmps)
      rw [htm]; exact f2
    · show ((L.params.zip args').foldl (fun tmps (x : Tmp × Value) => tmps.setIfInBounds x.1 x.2) L.tmps).size = size
      rw [htm]; exact f3
  refine Go.wpIn_mono (hrun assign _ H .normal fr₁ H₁ h3 B lo0 m _ w (some p.blk) hR hfr) fun e a₁ w₁ hp => ?_
  obtain ⟨rfl, m₁, hg₁, hfr₁, _⟩ := hp
  have hm₁ := hg₁.le _ _ hm
  obtain ⟨L₁, g1, g2, hg₂⟩ := setLoop_good hg₁.rel hm₁ (by rw [hg₁.lo]; exact hl) h4
  refine ⟨_, beginRound_run g1 (g2 rfl), ?_⟩
  refine Go.wpIn_mono (hrun body fr₁ H₂ ex fr₂ H₃ h5 B lo0 m₁ a₁ _ (some p.blk) hg₂.rel hfr₁) fun e a₂ w₂ hp => ?_
  obtain ⟨rfl, m₂, hg₃, hfr₂, _⟩ := hp
  have hm₂ := hg₃.le _ _ hm₁
  obtain ⟨L₂, k1, _, hg₄⟩ := setLoop_good hg₃.rel hm₂ (by rw [hg₃.lo, hg₂.lo, hg₁.lo]; exact hl) h6
  have hgood := (hg₁.trans hg₂).trans (hg₃.trans hg₄)
  rcases hj with ⟨rfl, rfl, rfl, rfl⟩ | ⟨rfl, rfl, rfl, rfl⟩ | ⟨id, rfl, rfl, rfl, rfl⟩
  · exact ⟨_, _, endRound_run k1 none, .bool true, rfl, m₂, hgood, .bool true⟩
  · exact ⟨_, _, endRound_run k1 (some .ret), .bool false, rfl, m₂, hgood, .bool false⟩
  · exact ⟨_, _, endRound_run k1 (some (.exit id)), .bool false, rfl, m₂, hgood, .bool false⟩
theorem via_run (hE : EnvOk E) {t : TypeId} {i : TI} {e : TypeId} (h : E.ty.get t = some i) (hd : i.desc = .pointer e) {path : Array FieldStep} (hp : path.toList = []) (x : Value) (w : World) : (receiverVia t x path true).run E.P w = .ok x w := by
  simp only [receiverVia, hp, follow, Sem.run_bind, Sem.run_pure, Result.andThen_ok, receiverAt, hE.desc h hd, Place.get]
end
section
theorem nativeV_func {name origin : String} {a b : List Value} {f : Fn} {x y : Array Value} : nativeV name origin (a ++ [.func f x y] ++ b) = none := by
  unfold nativeV
  cases (name == "internal/bytealg.IndexByteString" && origin == "") with
  | false => rfl
  | true =>
    simp only [cond_true]
    split
    · rename_i s c h
      exfalso
      have hm : Value.func f x y ∈ [Value.string s, Value.int .u8 c] := by rw [← h]; simp
      simp at hm
    · rfl
theorem idxOf_eq (s : ByteArray) (c : UInt8) : ∀ (m k : Nat), k + m = s.size → idxOf c.toNat (s.data.toList.drop k) k = match (List.range' k m).find? (fun i => s[i]! == c) with | some i => (i : Int) | none => -1
  | 0, k, h => by
    have : s.data.toList.drop k = [] := List.drop_eq_nil_of_le (by rw [Array.length_toList]; show s.size ≤ k; omega)
    rw [this]; rfl
  | m + 1, k, h => by
    have hk : k < s.size := by omega
    have hk' : k < s.data.toList.length := by rw [Array.length_toList]; exact hk
    rw [List.drop_eq_getElem_cons hk', List.range'_succ, List.find?_cons]
    have hg : s[k]! = s.data.toList[k] := by
      rw [getElem!_pos s k hk, Array.getElem_toList]
      rfl
    simp only [idxOf]
    rw [hg]
    cases hb : Nat.beq (s.data.toList[k]).toNat c.toNat with
    | true =>
      have : (s.data.toList[k] == c) = true := by
        rw [beq_iff_eq]
        exact UInt8.toNat_inj.1 (by simpa using hb)
      rw [this]; rfl
    | false =>
      have : (s.data.toList[k] == c) = false := by
        rw [beq_eq_false_iff_ne]
        rintro h
        rw [h] at hb
        simp at hb
      rw [this]
      exact idxOf_eq s c m (k + 1) (by omega)
theorem idxOf_first (s : ByteArray) (c : Int) : idxOf (c.toNat % 256) s.data.toList 0 = firstIdx s c.toNat.toUInt8 := by
  have := idxOf_eq s c.toNat.toUInt8 s.size 0 (by omega)
  rw [List.drop_zero] at this
  unfold firstIdx
  rw [List.range_eq_range']
  exact this
theorem find_ixb {fn : Func} (hn : fn.name = "internal/bytealg.IndexByteString") (ho : fn.origin = "") : Extern.findNext fn = none ∧ Extern.find fn = some Extern.BytealgIndexByte.indexByte := by
  obtain ⟨name, origin, targs, params, resultTypes, nfree, ntmps, results, body, norace, ours, file, endLine, litNo, met, tmpNames⟩ := fn
  simp only at hn ho
  subst hn ho
  exact ⟨by kernel_rfl, by kernel_rfl⟩
end
section
variable [Maps] {B lo0 : Nat} {m : Match} {H : Heap} {w : World} {E : Env}
theorem native_sim (hE : EnvOk E) {g : FuncId} {fn : Func} {args : List Value} {args' : Array Value} {v : Value} (h1 : E.fn.get g = some fn) (h2 : fn.body = none) (h : nativeV fn.name fn.origin args = some v) (hR : Rel B lo0 m H w) (ha : LRel m args args'.toList) :
    Sim B lo0 E m H w v H ((callFunc g args').run E.P w) := by
  unfold nativeV at h
  obtain ⟨hb, h⟩ := beq_cond h
  simp only [Bool.and_eq_true, beq_iff_eq] at hb
  split at h
  · rename_i s c _
    simp only [forceInt_eq, Option.some.injEq] at h
    subst h
    obtain ⟨e1, e2⟩ := find_ixb hb.1 hb.2
    obtain ⟨x, r, hx, x1, x2⟩ := ha.inv_cons
    obtain ⟨y, r', rfl, y1, y2⟩ := x2.inv_cons
    have hr' := y2.inv_nil
    subst hr'
    cases x1
    cases y1
    have hargs : args' = #[.string s, .int .u8 c] := by rw [← Array.toList_inj]; exact hx
    subst hargs
    have hrn := run_callFunc_extern (hE.fn g fn h1) (hE.num g fn h1) (by rw [h2]; rfl) e1 e2 #[.string s, .int .u8 c] w
    rw [run_indexByte_string, Result.andThen_ok] at hrn
    rw [Sim, hrn, idxOf_first]
    exact ⟨m, .refl hR, .int _ _⟩
  · simp at h
theorem callBody_sim (hE : EnvOk E) {run : Code → Fr → Heap → Option (Ex × Fr × Heap)} (hrun : CodeSim E run) : CallSim B lo0 E (callBody E run) := by
  intro f args H v H' h m w f' args' hf ha hR
  simp only [callBody, Option.bind_eq_some_iff] at h
  obtain ⟨⟨tf, targs⟩, h1, h⟩ := h
  -- a function of the program's
  have hfun : ∀ (g : FuncId) (l : List Value) (l' : Array Value), tf = .func g → targs = l → LRel m l l'.toList → Sim B lo0 E m H w v H' ((callFunc g l').run E.P w) := by
    intro g l l' e1 e2 hl
    subst e1 e2
    simp only [Option.bind_eq_some_iff] at h
    obtain ⟨fn, k1, h⟩ := h
    split at h
    · rename_i hb
      simp only [Option.bind_eq_some_iff, Option.some.injEq, Prod.mk.injEq] at h
      obtain ⟨v₀, h, rfl, rfl⟩ := h
      exact native_sim hE k1 hb h hR hl
    rename_i c k2
    obtain ⟨k3, h⟩ := bne_cond h
    simp only [Option.bind_eq_some_iff] at h
    obtain ⟨⟨ex, fr', H₁⟩, k4, h⟩ := h
    have h5 : ∀ id, ex ≠ .exit id := fun id he => by subst he; simp at h
    have h6 : ∃ t, killMarks H.lo H₁.objs fr'.marks = some t ∧ ∃ vs, resultsV E { objs := t, grps := H₁.grps, next := H₁.next, lo := H₁.lo } fr'.T fn.results.toList = some vs ∧ v = packV vs ∧ H' = { objs := t, grps := H₁.grps, next := H₁.next, lo := H₁.lo } := by
      cases ex with
      | exit id => exact absurd rfl (h5 id)
      | _ =>
        simp only [Option.bind_eq_some_iff, Tr.force_eq, Option.some.injEq, Prod.mk.injEq] at h
        obtain ⟨t, a1, vs, a2, a3, a4⟩ := h
        exact ⟨t, a1, vs, a2, a3.symm, a4.symm⟩
    obtain ⟨t, a1, vs, a2, rfl, rfl⟩ := h6
    exact enter_sim hE hrun k1 k2 (by simpa using k3) k4 h5 a1 a2 hR hl
  unfold target at h1
  split at h1
  · rename_i g first captured
    simp only [Option.some.injEq, Prod.mk.injEq] at h1
    cases hf with
    | func hfr hfa hfb ra rb =>
      rename_i f₁ first' captured'
      simp only [FnRel] at hfr
      subst hfr
      simp only [Deferred.ofValue, Sem.run_bind, Sem.run_pure, Result.andThen_ok, invoke]
      exact hfun g _ _ h1.1.symm h1.2.symm (by simpa using LRel.append (LRel.append ⟨hfa, ra⟩ ha) ⟨hfb, rb⟩)
  · rename_i l first captured
    simp only [Option.some.injEq, Prod.mk.injEq] at h1
    obtain ⟨rfl, rfl⟩ := h1
    cases hf with
    | func hfr hfa hfb ra rb =>
      rename_i f₁ first' captured'
      obtain ⟨p, hm, rfl⟩ := hfr
      have ha' : LRel m (first.toList ++ args) (first' ++ args').toList := by simpa using LRel.append ⟨hfa, ra⟩ ha
      simp only [Deferred.ofValue, Sem.run_bind, Sem.run_pure, Result.andThen_ok, invoke]
      simp only at h
      split at h
      · rename_i pend size T ps assign body de hobj
        obtain ⟨k1, h⟩ := bne_cond h
        have hlo : H.lo ≤ l := by simpa using k1
        simp only [Option.bind_eq_some_iff] at h
        obtain ⟨T', k2, ⟨ex₁, fr₁, H₁⟩, k3, h⟩ := h
        cases ex₁ with
        | normal =>
          simp only [Option.bind_eq_some_iff] at h
          obtain ⟨H₂, k4, ⟨ex, fr₂, H₃⟩, k5, h⟩ := h
          cases ex with
          | normal =>
            simp only [Option.bind_eq_some_iff, Option.some.injEq, Prod.mk.injEq] at h
            obtain ⟨H₄, k6, rfl, rfl⟩ := h
            exact round_sim hrun hm hlo hobj k2 k3 k4 k5 k6 (.inl ⟨rfl, rfl, rfl, rfl⟩) hR ha'
          | ret =>
            simp only [Option.bind_eq_some_iff, Option.some.injEq, Prod.mk.injEq] at h
            obtain ⟨H₄, k6, rfl, rfl⟩ := h
            exact round_sim hrun hm hlo hobj k2 k3 k4 k5 k6 (.inr (.inl ⟨rfl, rfl, rfl, rfl⟩)) hR ha'
          | exit id =>
            simp only [Option.bind_eq_some_iff, Option.some.injEq, Prod.mk.injEq] at h
            obtain ⟨H₄, k6, rfl, rfl⟩ := h
            exact round_sim hrun hm hlo hobj k2 k3 k4 k5 k6 (.inr (.inr ⟨id, rfl, rfl, rfl, rfl⟩)) hR ha'
        | _ => simp at h
      · simp at h
  · rename_i t path g pt first captured
    obtain ⟨k1, h1'⟩ := beq_cond h1
    clear h1
    simp only [Bool.and_eq_true, List.isEmpty_iff] at k1
    obtain ⟨⟨k1, k2⟩, k3⟩ := k1
    subst k2
    cases hf with
    | func hfr hfa hfb ra rb =>
      rename_i f₁ first' captured'
      simp only [FnRel] at hfr
      subst hfr
      have hl : LRel m (first.toList ++ args) (first' ++ args').toList := by simpa using LRel.append ⟨hfa, ra⟩ ha
      cases hc : first.toList ++ args with
      | nil => rw [hc] at h1'; simp at h1'
      | cons x l =>
        rw [hc] at h1' hl
        simp only [Option.some.injEq, Prod.mk.injEq] at h1'
        obtain ⟨x', r', e1, e2, e3⟩ := hl.inv_cons
        have hi : ∃ i e, E.ty.get t = some i ∧ i.desc = .pointer e := by
          split at k3
          · rename_i i hi
            split at k3
            · rename_i e he
              exact ⟨i, e, hi, he⟩
            · simp at k3
          · simp at k3
        obtain ⟨i, e, hi, hd⟩ := hi
        have h0 : (first' ++ args')[0]? = some x' := by rw [← Array.getElem?_toList, e1]; rfl
        have hx : #[x'] ++ (first' ++ args').extract 1 (first' ++ args').size = first' ++ args' := by
          apply Array.ext'
          have hsz : (first' ++ args').size = r'.length + 1 := by rw [← Array.length_toList, e1]; rfl
          rw [hsz, Array.toList_append, Array.toList_extract, e1, List.extract_eq_take_drop]
          simp
        have := hfun g _ (first' ++ args') h1'.1.symm h1'.2.symm (by rw [e1]; exact .cons e2 e3)
        simpa only [Deferred.ofValue, Sem.run_bind, Sem.run_pure, Result.andThen_ok, invoke, h0, via_run hE hi hd k1, hx] using this
  · rename_i name first captured
    cases hf with
    | func hfr hfa hfb ra rb =>
      rename_i f₁ first' captured'
      simp only [FnRel] at hfr
      subst hfr
      have hl : LRel m (first.toList ++ args) (first' ++ args').toList := by simpa using LRel.append ⟨hfa, ra⟩ ha
      cases hc : first.toList ++ args with
      | nil => rw [hc] at h1; simp at h1
      | cons x l =>
        rw [hc] at h1 hl
        simp only [Option.bind_eq_some_iff, Option.some.injEq, Prod.mk.injEq] at h1
        obtain ⟨⟨g, rv⟩, h2, h3, h4⟩ := h1
        obtain ⟨x', r', e1, e2, e3⟩ := hl.inv_cons
        obtain ⟨t, u, rv', f1, f2, f3⟩ := methodOf_run hE h2 e2
        have h0 : (first' ++ args')[0]? = some x' := by rw [← Array.getElem?_toList, e1]; rfl
        have hx : (#[rv'] ++ (first' ++ args').extract 1 (first' ++ args').size).toList = rv' :: r' := by
          have hsz : (first' ++ args').size = r'.length + 1 := by rw [← Array.length_toList, e1]; rfl
          rw [hsz, Array.toList_append, Array.toList_extract, e1, List.extract_eq_take_drop]
          simp
        have := hfun g _ (#[rv'] ++ (first' ++ args').extract 1 (first' ++ args').size) h3.symm h4.symm (by rw [hx]; exact .cons f3 e3)
        have hP : (program : Sem Program).run E.P w = .ok E.P w := rfl
        subst f1
        simpa only [Deferred.ofValue, Sem.run_bind, Sem.run_pure, Result.andThen_ok, invoke, h0, callMethod, hP, show E.P.types.size + Made.depth = (E.P.types.size + 99) + 1 from rfl, f2] using this
  · simp at h1
structure OrcOk (E : Env) : Prop where
  sim : ∀ B lo0, CallSim B lo0 E E.orc
  low : CallLow E.orc
theorem OrcOk.none {P : Program} : OrcOk (Env.of P) := ⟨fun _ _ _ _ _ _ _ h => (by cases h), fun _ _ _ _ _ _ h => (by cases h)⟩
theorem callWith_sim (hE : EnvOk E) (hO : OrcOk E) {run : Code → Fr → Heap → Option (Ex × Fr × Heap)} (hrun : CodeSim E run) : CallSim B lo0 E (callWith E run) := by
  intro f args H v H' h
  unfold callWith at h
  cases ho : E.orc f args H with
  | some r =>
    rw [ho] at h
    simp only [Option.some.injEq] at h
    subst h
    exact hO.sim B lo0 f args H v H' ho
  | none =>
    rw [ho] at h
    exact callBody_sim hE hrun f args H v H' h
end
end Go.AM

namespace Go.AM
section
variable [Maps] {H H' : Heap} {E : Env}
theorem dropped_get {v : Value} {t : Tmp} : ∀ {l : List Tmp} {T : Tr Value}, (dropAll l T).get t = some v → t ∉ l ∧ T.get t = some v
  | [], T, h => ⟨by simp, h⟩
  | x :: l, T, h => by
    obtain ⟨h1, h2⟩ := dropped_get (l := l) h
    obtain ⟨h3, h4⟩ := Tr.get_del h2
    exact ⟨by simp [h1, h3], h4⟩
theorem dropped_keep {t : Tmp} (ht : Maps.low t) : ∀ {l : List Tmp} {T : Tr Value}, t ∉ l → (dropAll l T).get t = T.get t
  | [], T, h => rfl
  | x :: l, T, h => by
    simp only [List.mem_cons, not_or] at h
    rw [dropAll, dropped_keep ht h.2, Tr.get_del_other h.1 ht]
end
section
variable {B lo0 : Nat} {m : Match} {w : World} {P : Program}
theorem mem_tmpsOf {t : Tmp} : ∀ {l : List Operand}, Operand.tmp t ∈ l → t ∈ tmpsOf l
  | x :: l, h => by
    rcases List.mem_cons.1 h with h | h
    · subst h; simp [tmpsOf]
    · have := mem_tmpsOf h
      cases x <;> simp [tmpsOf, this]
end
section
variable [Maps] {H H' : Heap} {E : Env}
theorem evs_congr {T T' : Tr Value} : ∀ {l : List Operand}, (∀ x ∈ l, ev T x = ev T' x) → evs T l = evs T' l
  | [], _ => rfl
  | x :: l, h => by
    simp only [evs, h x (List.mem_cons_self ..), evs_congr fun y hy => h y (List.mem_cons_of_mem _ hy)]
theorem evParts_congr {T T' : Tr Value} {place : Nat → Option (Nat × Nat)} : ∀ {l : List (Nat × Operand)}, (∀ p ∈ l, ev T p.2 = ev T' p.2) → evParts T place l = evParts T' place l
  | [], _ => rfl
  | (i, x) :: l, h => by
    have h1 := h (i, x) (List.mem_cons_self ..)
    simp only at h1
    simp only [evParts, h1, evParts_congr fun y hy => h y (List.mem_cons_of_mem _ hy)]
theorem evO_congr {T T' : Tr Value} {x : Option Operand} (h : ∀ y, x = some y → ev T y = ev T' y) : evO T x = evO T' x := by
  cases x with
  | none => rfl
  | some y => simp only [evO, h y rfl]
theorem structLit_congr {T T' : Tr Value} {t : TypeId} {l : List (Nat × Operand)} (h : ∀ p ∈ l, ev T p.2 = ev T' p.2) : structLit E T t l = structLit E T' t l := by
  simp only [structLit, evParts_congr h]
theorem exOp_congr {call : Caller} {T T' : Tr Value} {o : Oper} (h : ∀ x ∈ o.op.operands.toList, ev T x = ev T' x) : exOp E call T o H = exOp E call T' o H := by
  unfold exOp
  cases ho : o.op <;> simp only [ho, Op.operands, Call.operands] at h
  case build t ps => simp only [structLit_congr (E := E) (t := t) (l := ps.toList) fun p hp => h p.2 (List.mem_map_of_mem hp)]
  case buildSlice t n ps =>
    have : ∀ pl, evParts T pl ps.toList = evParts T' pl ps.toList := fun pl => evParts_congr fun p hp => h p.2 (List.mem_map_of_mem hp)
    simp only [this]
  case makeFunc fn a b => simp only [evs_congr (l := a.toList) fun x hx => h x (by rw [Array.toList_append]; exact List.mem_append.2 (.inl hx)), evs_congr (l := b.toList) fun x hx => h x (by rw [Array.toList_append]; exact List.mem_append.2 (.inr hx))]
  case slice t x l hi m => simp only [h x (by simp), evO_congr (x := l) fun y hy => h y (by simp [hy]), evO_congr (x := hi) fun y hy => h y (by simp [hy]), evO_congr (x := m) fun y hy => h y (by simp [hy])]
  case makeMap t r => cases r <;> rfl
  case next x b => cases b <;> simp only [h x (by simp)]
  case call c =>
    simp only [evs_congr (l := c.args.toList) fun x hx => h x (by rw [Array.toList_append]; exact List.mem_append.2 (.inr hx))]
    cases hc : c.callee with
    | builtin b => rfl
    | value f => simp only [h f (by simp [hc])]
    | invoke x m => simp only [h x (by simp [hc])]
  all_goals first
    | rfl
    | (rename_i x; simp only [h x (by simp)]; done)
    | (rename_i x y; simp only [h x (by simp), h y (by simp)]; done)
    | (rename_i x y; simp only [h x (by simp)]; done)
    | (rename_i x y; simp only [h y (by simp)]; done)
    | (rename_i x y z; simp only [h x (by simp), h y (by simp), h z (by simp)]; done)
    | (rename_i x y z; simp only [h y (by simp), h z (by simp)]; done)
    | (rename_i x y z; simp only [h x (by simp), h y (by simp)]; done)
    | (rename_i x y z; simp only [h y (by simp)]; done)
    | (rename_i x y z u; simp only [h y (by simp), h z (by simp), h u (by simp)]; done)
    | (rename_i x y z u; simp only [h y (by simp), h z (by simp)]; done)
theorem exOp_pure {call : Caller} {T : Tr Value} {o : Oper} {v : Value} (hk : kindOf o.op = .pure) (h : exOp E call T o H = some (v, H')) : H' = H ∧ ∀ Hx, exOp E call T o Hx = some (v, Hx) := by
  unfold exOp at h ⊢
  cases ho : o.op <;> simp only [ho, kindOf, reduceCtorEq] at hk h ⊢
  case convert s d x =>
    cases hb : Nat.beq s BT with
    | true => rw [hb] at hk; cases hk
    | false =>
      simp only [cvV, hb, Option.bind_eq_some_iff, Option.some.injEq, Prod.mk.injEq, cond_false] at h ⊢
      obtain ⟨u, h1, u2, h2, rfl, rfl⟩ := h
      simp [h1, h2]
  case pick c a b =>
    simp only [Option.bind_eq_some_iff] at h
    obtain ⟨u, h1, h⟩ := h
    simp only [h1, Option.bind_some]
    split at h
    all_goals first
      | (simp only [Option.bind_eq_some_iff, Option.some.injEq, Prod.mk.injEq] at h; obtain ⟨u, h2, rfl, rfl⟩ := h; simp [h2])
      | simp at h
  case nilCheck x =>
    simp only [Option.bind_eq_some_iff] at h
    obtain ⟨u, h1, h⟩ := h
    simp only [h1, Option.bind_some]
    split at h
    all_goals first
      | (simp only [Option.some.injEq, Prod.mk.injEq] at h; obtain ⟨rfl, rfl⟩ := h; simp)
      | (simp at h; done)
      | (split at h
         · simp only [Option.bind_eq_some_iff, Option.some.injEq, Prod.mk.injEq] at h
           obtain ⟨mm, h2, rfl, rfl⟩ := h
           simp [*]
         · simp at h)
  case makeInterface t x =>
    simp only [Option.bind_eq_some_iff] at h
    obtain ⟨u, h1, i, h2, h⟩ := h
    simp only [h1, h2, Option.bind_some]
    split at h
    · simp at h
    · simp at h
    · simp only [Option.some.injEq, Prod.mk.injEq] at h; obtain ⟨rfl, rfl⟩ := h; simp
  case makeFunc fn a b =>
    cases fn <;> simp only [Option.bind_eq_some_iff, Option.some.injEq, Prod.mk.injEq, reduceCtorEq] at h ⊢
    all_goals (obtain ⟨u, h1, u2, h2, rfl, rfl⟩ := h; simp [h1, h2])
  case extract t i =>
    simp only [Option.bind_eq_some_iff] at h
    obtain ⟨u, h1, h⟩ := h
    simp only [h1, Option.bind_some]
    split at h
    · simp only [Option.bind_eq_some_iff, Option.some.injEq, Prod.mk.injEq] at h; obtain ⟨u, h2, rfl, rfl⟩ := h; simp [h2]
    · simp at h
  case call c =>
    simp only [Option.bind_eq_some_iff] at h
    obtain ⟨args, h1, h⟩ := h
    simp only [h1, Option.bind_some]
    cases hc : c.callee with
    | value f => simp [hc] at hk
    | invoke x m => simp [hc] at hk
    | builtin b =>
      simp only [hc] at hk h ⊢
      cases b <;> simp only [reduceCtorEq] at hk
      · unfold builtinV at h ⊢
        cases args with
        | nil => simp at h
        | cons x l =>
          simp only [Option.bind_eq_some_iff, Option.some.injEq, Prod.mk.injEq] at h ⊢
          obtain ⟨u, h2, rfl, rfl⟩ := h; simp [h2]
      · unfold builtinV at h ⊢
        cases args with
        | nil => simp at h
        | cons x l =>
          simp only [Option.bind_eq_some_iff, Option.some.injEq, Prod.mk.injEq] at h ⊢
          obtain ⟨u, h2, rfl, rfl⟩ := h; simp [h2]
  all_goals first
    | (simp at h; done)
    | (simp only [Option.bind_eq_some_iff, Option.some.injEq, Prod.mk.injEq] at h; obtain ⟨u, h1, rfl, rfl⟩ := h; simp [h1]; done)
    | (simp only [Option.bind_eq_some_iff, Option.some.injEq, Prod.mk.injEq] at h; obtain ⟨u, h1, u2, h2, rfl, rfl⟩ := h; simp [h1, h2]; done)
    | (simp only [Option.bind_eq_some_iff, Option.some.injEq, Prod.mk.injEq] at h; obtain ⟨u, h1, u2, h2, u3, h3, rfl, rfl⟩ := h; simp [h1, h2, h3]; done)
def plainObj (o : AObj) : Prop := ∀ c g t, o ≠ .row c (some g) t
theorem exOp_alloc {call : Caller} {T : Tr Value} {o : Oper} {v : Value} (hk : kindOf o.op = .alloc) (h : exOp E call T o H = some (v, H')) :
    ∃ ob, plainObj ob ∧ H' = H.add ob ∧ ∀ Hx, Hx.next = H.next → exOp E call T o Hx = some (v, Hx.add ob) := by
  have row : ∀ {x : Value} {cells : List Value}, some (x, H.newRow cells) = some (v, H') → v = x ∧ plainObj (.row cells none true) ∧ H' = H.add (.row cells none true) := fun h => by
    simp only [Option.some.injEq, Prod.mk.injEq] at h
    exact ⟨h.1.symm, fun c g t h => by simp at h, h.2.symm⟩
  unfold exOp at h ⊢
  cases ho : o.op <;> simp only [ho, kindOf, reduceCtorEq] at hk h ⊢
  case convert s d x => cases hb : Nat.beq s BT <;> rw [hb] at hk <;> cases hk
  case alloc t =>
    simp only [Option.bind_eq_some_iff] at h
    obtain ⟨i, h1, z, h2, h⟩ := h
    obtain ⟨rfl, h3, h4⟩ := row h
    exact ⟨_, h3, h4, fun Hx hx => by simp only [h1, h2, Option.bind_some, hx]; rfl⟩
  case box t x =>
    simp only [Option.bind_eq_some_iff] at h
    obtain ⟨i, h1, h⟩ := h
    obtain ⟨rfl, h3, h4⟩ := row h
    exact ⟨_, h3, h4, fun Hx hx => by simp only [h1, Option.bind_some, hx]; rfl⟩
  case buildSlice t len parts =>
    simp only [Option.bind_eq_some_iff] at h
    obtain ⟨i, h1, h⟩ := h
    simp only [h1, Option.bind_some]
    split at h
    · rename_i e hd
      simp only [Option.bind_eq_some_iff] at h
      obtain ⟨j, h2, z, hz, h⟩ := h
      obtain ⟨hb, h⟩ := bne_cond h
      simp only [Option.bind_eq_some_iff] at h
      obtain ⟨ps, h6, l, h7, h⟩ := h
      obtain ⟨rfl, h3, h4⟩ := row h
      refine ⟨_, h3, h4, fun Hx hx => ?_⟩
      simp only [h2, hz, Option.bind_some, hb, cond_false, h6, h7, hx]; rfl
    · simp at h
  case makeMap t r =>
    cases r with
    | some x => simp at h
    | none =>
      simp only [Option.some.injEq, Prod.mk.injEq] at h ⊢
      obtain ⟨rfl, rfl⟩ := h
      exact ⟨_, fun c g t h => by simp at h, rfl, fun Hx hx => ⟨by rw [hx], rfl⟩⟩
  case makeSlice t l c =>
    simp only [Option.bind_eq_some_iff] at h
    obtain ⟨u, h1, u2, h2, h⟩ := h
    simp only [h1, h2, Option.bind_some]
    unfold makeSliceV at h ⊢
    simp only [Option.bind_eq_some_iff] at h
    obtain ⟨i, h3, h⟩ := h
    simp only [h3, Option.bind_some]
    split at h
    · rename_i e k1 l1 k2 c1 hd
      cases l1 with
      | negSucc n => simp at h
      | ofNat l1 =>
        cases c1 with
        | negSucc n => simp at h
        | ofNat c1 =>
          simp only [Option.bind_eq_some_iff] at h
          obtain ⟨j, h5, z, h6, h⟩ := h
          obtain ⟨hb, h⟩ := beq_cond h
          obtain ⟨rfl, h7, h8⟩ := row h
          refine ⟨_, h7, h8, fun Hx hx => ?_⟩
          simp only [h5, h6, Option.bind_some, hb, cond_true, hx]; rfl
    · simp at h
  case call c =>
    cases hc : c.callee with
    | builtin b => cases b <;> simp [hc] at hk
    | _ => simp [hc] at hk
def rowOfV : Value → Option Nat
  | .pointer (some a) => some a.block
  | .slice (some a) _ _ => some a.block
  | .map (some r) => some r
  | _ => none
def loadsFrom : Op → Option Operand
  | .load _ x => some x
  | .lookup _ x _ _ => some x
  | .slice _ x _ _ _ => some x
  | .call c => c.args.toList.head?
  | _ => none
end
section
variable {B lo0 : Nat} {m : Match} {w : World} {P : Program}
theorem loadsFrom_mem {o : Op} {x : Operand} (h : loadsFrom o = some x) : x ∈ o.operands.toList := by
  cases o <;> simp only [loadsFrom, reduceCtorEq, Option.some.injEq] at h
  · subst h; simp [Op.operands]
  · subst h; simp [Op.operands]
  · subst h; simp [Op.operands]
  · rename_i c
    simp only [Op.operands, Call.operands, Array.toList_append, List.mem_append]
    exact .inr (List.mem_of_head? h)
end
section
variable [Maps] {H H' : Heap} {E : Env}
theorem exOp_load {call : Caller} {T : Tr Value} {o : Oper} {v : Value} (hk : kindOf o.op = .load) (h : exOp E call T o H = some (v, H')) :
    H' = H ∧ ((∀ Hx, exOp E call T o Hx = some (v, Hx)) ∨ ∃ x u r ob, loadsFrom o.op = some x ∧ ev T x = some u ∧ rowOfV u = some r ∧ H.objs.get r = some ob ∧ ∀ Hx : Heap, Hx.objs.get r = some ob → exOp E call T o Hx = some (v, Hx)) := by
  unfold exOp at h ⊢
  cases ho : o.op <;> simp only [ho, kindOf, reduceCtorEq] at hk h ⊢
  case convert s d x => cases hb : Nat.beq s BT <;> rw [hb] at hk <;> cases hk
  case load t x =>
    simp only [Option.bind_eq_some_iff, Option.some.injEq, Prod.mk.injEq] at h
    obtain ⟨u, h1, u2, h2, rfl, rfl⟩ := h
    refine ⟨rfl, .inr ?_⟩
    unfold loadV at h2
    split at h2
    · rename_i r o'
      split at h2
      · rename_i cells g t' hr
        refine ⟨x, _, r, _, rfl, h1, rfl, hr, fun Hx hx => ?_⟩
        simp only [h1, Option.bind_some, loadV, hx, h2]
      · simp at h2
    · simp at h2
  case lookup t x k ok =>
    simp only [Option.bind_eq_some_iff, Option.some.injEq, Prod.mk.injEq] at h
    obtain ⟨u, h1, u3, h3, u2, h2, rfl, rfl⟩ := h
    refine ⟨rfl, ?_⟩
    simp only [h1, h3, Option.bind_some]
    unfold lookupV at h2 ⊢
    simp only [Option.bind_eq_some_iff] at h2
    obtain ⟨i, h4, h2⟩ := h2
    simp only [h4, Option.bind_some]
    split at h2
    · rename_i kt et hd
      obtain ⟨hb, h2⟩ := bne_cond h2
      simp only [Option.bind_eq_some_iff] at h2
      obtain ⟨es, h5, h2⟩ := h2
      have h2' := Option.bind_eq_some_iff.2 h2
      split at h5
      · simp only [Option.some.injEq] at h5
        subst h5
        left
        intro Hx
        simp only [hb, cond_false, Option.bind_some, h2']
      · rename_i r
        split at h5
        · rename_i es' hr
          simp only [Option.some.injEq] at h5
          subst h5
          right
          refine ⟨x, _, r, _, rfl, h1, rfl, hr, fun Hx hx => ?_⟩
          simp only [hb, cond_false, hx, Option.bind_some, h2']
        · rename_i es' c' hr
          simp only [Option.some.injEq] at h5
          subst h5
          right
          refine ⟨x, _, r, _, rfl, h1, rfl, hr, fun Hx hx => ?_⟩
          simp only [hb, cond_false, hx, Option.bind_some, h2']
        · simp at h5
      · simp at h5
    · simp at h2
  case slice t x lo hi mx =>
    simp only [Option.bind_eq_some_iff, Option.some.injEq, Prod.mk.injEq] at h
    obtain ⟨u, h1, u2, h2, u3, h3, u4, h4, u5, h5, rfl, rfl⟩ := h
    refine ⟨rfl, ?_⟩
    simp only [h1, h2, h3, h4, Option.bind_some]
    unfold sliceV at h5 ⊢
    simp only [Option.bind_eq_some_iff] at h5
    obtain ⟨i, h6, h5⟩ := h5
    simp only [h6, Option.bind_some]
    split at h5
    · left
      intro Hx
      simp [h5]
    · rename_i r o' len cap hd
      obtain ⟨hb, h5⟩ := bne_cond h5
      simp only [Option.bind_eq_some_iff] at h5
      obtain ⟨b, h7, z, h8, h5⟩ := h5
      split at h5
      · rename_i hr
        refine .inr ⟨x, _, r, _, rfl, h1, rfl, hr, fun Hx hx => ?_⟩
        simp only [hb, cond_false, h7, h8, hx, Option.bind_some, h5]
      · rename_i hr
        refine .inr ⟨x, _, r, _, rfl, h1, rfl, hr, fun Hx hx => ?_⟩
        simp only [hb, cond_false, h7, h8, hx, Option.bind_some, h5]
      · simp at h5
    · left
      intro Hx
      simp [h5]
    · rename_i r o' hd
      simp only [Option.bind_eq_some_iff] at h5
      obtain ⟨b, h7, z, h8, h5⟩ := h5
      split at h5
      · rename_i hr
        refine .inr ⟨x, _, r, _, rfl, h1, rfl, hr, fun Hx hx => ?_⟩
        simp only [h7, h8, hx, Option.bind_some, h5]
      · simp at h5
    · simp at h5
  case call c =>
    cases hc : c.callee with
    | value f => simp [hc] at hk
    | invoke x m => simp [hc] at hk
    | builtin b =>
      cases b <;> simp only [hc, reduceCtorEq] at hk
      simp only [hc, Option.bind_eq_some_iff] at h ⊢
      obtain ⟨args, h1, h⟩ := h
      unfold builtinV at h ⊢
      cases hts : c.argTypes.toList with
      | nil => rw [hts] at h; simp at h
      | cons t tl =>
        cases args with
        | nil => rw [hts] at h; simp at h
        | cons x l =>
          rw [hts] at h
          simp only [Option.bind_eq_some_iff] at h
          obtain ⟨i, h2, h⟩ := h
          simp only [h1]
          have hx : ∃ y, loadsFrom (.call c) = some y ∧ ev T y = some x := by
            simp only [loadsFrom]
            cases ha : c.args.toList with
            | nil => rw [ha] at h1; simp [evs] at h1
            | cons y ys =>
              rw [ha] at h1
              simp only [evs, Option.bind_eq_some_iff, Option.some.injEq, List.cons.injEq] at h1
              obtain ⟨u, h3, r, _, rfl, _⟩ := h1
              exact ⟨y, rfl, h3⟩
          split at h
          · simp only [Option.some.injEq, Prod.mk.injEq] at h; obtain ⟨rfl, rfl⟩ := h; exact ⟨rfl, .inl fun Hx => by simp [*]⟩
          · simp only [Option.some.injEq, Prod.mk.injEq] at h; obtain ⟨rfl, rfl⟩ := h; exact ⟨rfl, .inl fun Hx => by simp [*]⟩
          · simp only [Option.some.injEq, Prod.mk.injEq] at h; obtain ⟨rfl, rfl⟩ := h; exact ⟨rfl, .inl fun Hx => by simp [*]⟩
          · simp only [Option.some.injEq, Prod.mk.injEq] at h; obtain ⟨rfl, rfl⟩ := h; exact ⟨rfl, .inl fun Hx => by simp [*]⟩
          · rename_i r _
            split at h
            · rename_i es hr
              simp only [Option.some.injEq, Prod.mk.injEq] at h
              obtain ⟨rfl, rfl⟩ := h
              obtain ⟨y, hy1, hy2⟩ := hx
              exact ⟨rfl, .inr ⟨y, _, r, _, hy1, hy2, rfl, hr, fun Hx hx => by simp [*]⟩⟩
            · simp at h
          · simp at h
end
end Go.AM

namespace Go.AM
section
variable [Maps] {E : Env}
def Dep (ops : Array Oper) (i j : Nat) : Prop := ((Region.before ops).toList.getD i 0).testBit j = true
end
section
variable {B lo0 : Nat} {m : Match} {w : World} {P : Program}
theorem fold_bits (acc : Array Nat) (j : Nat) : ∀ (l : List Edge) (s : Nat), (l.foldl (fun s e => if Region.binds .any e then s ||| 2 ^ e.on ||| acc.getD e.on 0 else s) s).testBit j = true →
    s.testBit j = true ∨ ∃ e ∈ l, Region.binds .any e = true ∧ (e.on = j ∨ (acc.getD e.on 0).testBit j = true)
  | [], s, h => .inl h
  | e :: l, s, h => by
    rcases fold_bits acc j l _ h with h1 | ⟨e', h1, h2⟩
    · dsimp only at h1
      split at h1
      · rename_i hb
        simp only [Nat.testBit_or, Bool.or_eq_true, Nat.testBit_two_pow, decide_eq_true_eq] at h1
        rcases h1 with (h1 | h1) | h1
        · exact .inl h1
        · exact .inr ⟨e, List.mem_cons_self .., hb, .inl h1⟩
        · exact .inr ⟨e, List.mem_cons_self .., hb, .inr h1⟩
      · exact .inl h1
    · exact .inr ⟨e', List.mem_cons_of_mem _ h1, h2⟩
end
section
variable [Maps] {E : Env}
def bstep (acc : Array Nat) (o : Oper) : Array Nat := acc.push (o.after.foldl (fun s e => if Region.binds .any e then s ||| 2 ^ e.on ||| acc.getD e.on 0 else s) 0)
end
section
variable {B lo0 : Nat} {m : Match} {w : World} {P : Program}
theorem bstep_old {A : Array Nat} {o : Oper} {k : Nat} (h : k < A.size) : (bstep A o).getD k 0 = A.getD k 0 := by
  unfold bstep
  rw [Array.getD_eq_getD_getElem?, Array.getD_eq_getD_getElem?, Array.getElem?_push, if_neg (by omega)]
theorem bit_lt {A : Array Nat} {k j : Nat} (h : (A.getD k 0).testBit j = true) : k < A.size := by
  apply Nat.lt_of_not_le
  intro hle
  rw [Array.getD_eq_getD_getElem?, Array.getElem?_eq_none hle] at h
  simp at h
theorem bstep_bit {A : Array Nat} {o : Oper} {k j : Nat} (h : (A.getD k 0).testBit j = true) : ((bstep A o).getD k 0).testBit j = true := by
  rw [bstep_old (bit_lt h)]; exact h
theorem bstep_new {A : Array Nat} {o : Oper} {j : Nat} (h : ((bstep A o).getD A.size 0).testBit j = true) : ∃ e ∈ o.after.toList, Region.binds .any e = true ∧ (e.on = j ∨ (A.getD e.on 0).testBit j = true) := by
  unfold bstep at h
  rw [Array.getD_eq_getD_getElem?, Array.getElem?_push, if_pos rfl, Option.getD_some, ← Array.foldl_toList] at h
  rcases fold_bits A j _ _ h with h | h
  · simp at h
  · exact h
end
section
variable [Maps] {E : Env}
def BInv (l : List Oper) (A : Array Nat) : Prop := A.size = l.length ∧ ∀ i j, (A.getD i 0).testBit j = true → ∃ o, l[i]? = some o ∧ ∃ e ∈ o.after.toList, Region.binds .any e = true ∧ (e.on = j ∨ (A.getD e.on 0).testBit j = true)
end
section
variable {B lo0 : Nat} {m : Match} {w : World} {P : Program}
theorem BInv.step {l : List Oper} {A : Array Nat} (h : BInv l A) (o : Oper) : BInv (l ++ [o]) (bstep A o) := by
  obtain ⟨h1, h2⟩ := h
  refine ⟨by simp [bstep, h1], fun i j hij => ?_⟩
  by_cases hi : i < A.size
  · rw [bstep_old hi] at hij
    obtain ⟨o', h3, e, h4, h5, h6⟩ := h2 i j hij
    exact ⟨o', by rw [List.getElem?_append_left (by omega)]; exact h3, e, h4, h5, h6.imp id bstep_bit⟩
  · by_cases hi' : i = A.size
    · subst hi'
      obtain ⟨e, h4, h5, h6⟩ := bstep_new hij
      exact ⟨o, by rw [h1, List.getElem?_append_right (Nat.le_refl _)]; simp, e, h4, h5, h6.imp id bstep_bit⟩
    · have := bit_lt hij
      simp [bstep] at this
      omega
theorem BInv.all : ∀ (l l' : List Oper) (A : Array Nat), BInv l A → BInv (l ++ l') (l'.foldl bstep A)
  | l, [], A, h => by simpa using h
  | l, o :: l', A, h => by
    have := BInv.all (l ++ [o]) l' (bstep A o) (h.step o)
    simpa using this
theorem before_eq (ops : Array Oper) : Region.before ops = ops.toList.foldl bstep #[] := by
  unfold Region.before
  rw [← Array.foldl_toList]
  rfl
theorem Dep.inv {ops : Array Oper} {i j : Nat} (h : Dep ops i j) : ∃ o, ops[i]? = some o ∧ ∃ e ∈ o.after.toList, Region.binds .any e = true ∧ (e.on = j ∨ Dep ops e.on j) := by
  have hd : ∀ k, (Region.before ops).toList.getD k 0 = (Region.before ops).getD k 0 := fun k => by
    rw [List.getD_eq_getElem?_getD, Array.getD_eq_getD_getElem?, Array.getElem?_toList]
  have hI : BInv ops.toList (Region.before ops) := by
    rw [before_eq]
    have := BInv.all [] ops.toList #[] ⟨rfl, fun i j h => by simp at h⟩
    simpa using this
  unfold Dep at h
  rw [hd] at h
  obtain ⟨o, h1, e, h2, h3, h4⟩ := hI.2 i j h
  refine ⟨o, by simpa using h1, e, h2, h3, h4.imp id fun h => ?_⟩
  unfold Dep
  rw [hd]; exact h
end
section
variable [Maps] {E : Env}
end
section
variable {B lo0 : Nat} {m : Match} {w : World} {P : Program}
theorem bitOf_eq (m k : Nat) : bitOf m k = m.testBit k := by
  unfold bitOf Nat.testBit
  have h1 : Nat.land 1 (Nat.shiftRight m k) = 1 &&& (m >>> k) := rfl
  rw [h1, Nat.one_and_eq_mod_two]
  rcases Nat.mod_two_eq_zero_or_one (m >>> k) with h | h <;> rw [h] <;> rfl
theorem maskT_iff {t : Tmp} : ∀ {l : List Tmp}, bitOf (maskT l) t = true ↔ t ∈ l
  | [] => by simp [maskT, bitOf_eq]
  | x :: l => by
    have ih := maskT_iff (t := t) (l := l)
    rw [bitOf_eq] at ih ⊢
    have h1 : maskT (x :: l) = (1 <<< x) ||| maskT l := rfl
    rw [h1, Nat.testBit_or, Bool.or_eq_true, ih, Nat.one_shiftLeft, Nat.testBit_two_pow, List.mem_cons]
    simp [eq_comm]
theorem tmpsOk_inv {ns : Nat} {b : List Nat} {i : Nat} : ∀ {l : List Oper} {n : Nat}, tmpsOk ns b i l n = true → ∀ k p t, l[k]? = some p → p.dst = some t → bitOf ns t = true → n + k = i ∨ ordered b i (n + k) = true
  | [], n, h, k, q, t, hq, hd, ht => by simp at hq
  | p :: l, n, h, 0, q, t, hq, hd, ht => by
    simp only [List.getElem?_cons_zero, Option.some.injEq] at hq
    subst hq
    simp only [tmpsOk, hd, Bool.and_eq_true, Bool.or_eq_true, Bool.not_eq_true', Nat.beq_eq] at h
    rcases h.1 with (h1 | h1) | h1
    · rw [ht] at h1; cases h1
    · exact .inl (by simpa using h1)
    · exact .inr (by simpa using h1)
  | p :: l, n, h, k + 1, q, t, hq, hd, ht => by
    simp only [tmpsOk, Bool.and_eq_true] at h
    have := tmpsOk_inv h.2 k q t (by simpa using hq) hd ht
    rwa [show n + 1 + k = n + (k + 1) by omega] at this
theorem effOk_inv {st : Bool} {b : List Nat} {i : Nat} : ∀ {l : List Oper} {n : Nat}, effOk st b i l n = true → ∀ k p, l[k]? = some p → n + k ≠ i → ordered b i (n + k) = false →
    kindOf p.op ≠ .store ∧ kindOf p.op ≠ .call ∧ (kindOf p.op = .alloc → i < n + k) ∧ (kindOf p.op = .load → st = true → n + k < i ∧ ∃ t, ((∃ ty, p.op = .load ty (.tmp t)) ∨ ∃ ty lo hi mx, p.op = .slice ty (.tmp t) lo hi mx) ∧ ∀ k' q, k ≤ k' → l[k']? = some q → q.dst ≠ some t)
  | [], n, h, k, q, hq, hne, hf => by simp at hq
  | p :: l, n, h, 0, q, hq, hne, hf => by
    simp only [List.getElem?_cons_zero, Option.some.injEq] at hq
    subst hq
    simp only [Nat.add_zero] at hne hf ⊢
    simp only [effOk, hf, Bool.and_eq_true, Bool.or_eq_true, Nat.beq_eq, Bool.false_eq_true, or_false] at h
    have h1 := h.1.resolve_left hne
    cases hk : kindOf p.op <;> rw [hk] at h1 <;> simp only [Bool.false_eq_true] at h1
    · simp
    · refine ⟨by simp, by simp, fun _ => ?_, by simp⟩
      exact Nat.le_of_ble_eq_true h1
    · refine ⟨by simp, by simp, by simp, fun _ hst => ?_⟩
      simp only [hst, Bool.not_true, Bool.false_or, Bool.and_eq_true] at h1
      refine ⟨Nat.le_of_ble_eq_true h1.1, ?_⟩
      have h2 := h1.2
      have key : ∀ t, (!writesT p t && l.all fun q => !writesT q t) = true → ∀ k' r, 0 ≤ k' → (p :: l)[k']? = some r → r.dst ≠ some t := fun t h2 k' r _ hr hd => by
        simp only [Bool.and_eq_true, List.all_eq_true, Bool.not_eq_true'] at h2
        cases k' with
        | zero =>
          simp only [List.getElem?_cons_zero, Option.some.injEq] at hr
          subst hr
          have := h2.1
          simp [writesT, hd] at this
        | succ k' =>
          have := h2.2 r (List.mem_of_getElem? (by simpa using hr))
          simp [writesT, hd] at this
      split at h2
      · rename_i ty t hop
        exact ⟨t, .inl ⟨ty, hop⟩, key t h2⟩
      · rename_i ty t lo hi mx hop
        exact ⟨t, .inr ⟨ty, lo, hi, mx, hop⟩, key t h2⟩
      · simp at h2
  | p :: l, n, h, k + 1, q, hq, hne, hf => by
    simp only [effOk, Bool.and_eq_true] at h
    have := effOk_inv h.2 k q (by simpa using hq) (by omega) (by rwa [show n + 1 + k = n + (k + 1) by omega])
    rw [show n + 1 + k = n + (k + 1) by omega] at this
    refine ⟨this.1, this.2.1, this.2.2.1, fun h1 h2 => ?_⟩
    obtain ⟨h3, t, h4, h5⟩ := this.2.2.2 h1 h2
    refine ⟨h3, t, h4, fun k' r hk' hr => ?_⟩
    cases k' with
    | zero => omega
    | succ k' => exact h5 k' r (by omega) (by simpa using hr)
theorem freeLoads_inv {b : List Nat} {i : Nat} : ∀ {l : List Oper} {n k : Nat} {p : Oper}, l[k]? = some p → n + k ≠ i → ordered b i (n + k) = false → kindOf p.op = .load → p.op ∈ freeLoads b i l n
  | [], n, k, q, hq, hne, hf, hk => by simp at hq
  | p :: l, n, 0, q, hq, hne, hf, hk => by
    simp only [List.getElem?_cons_zero, Option.some.injEq] at hq
    subst hq
    simp only [Nat.add_zero] at hne hf
    have : Nat.beq n i = false := by cases h : Nat.beq n i; rfl; simp at h; exact absurd h hne
    simp [freeLoads, this, hf, hk, isLoad]
  | p :: l, n, k + 1, q, hq, hne, hf, hk => by
    have := freeLoads_inv (b := b) (i := i) (l := l) (n := n + 1) (k := k) (by simpa using hq) (by omega) (by rwa [show n + 1 + k = n + (k + 1) by omega]) hk
    simp only [freeLoads]
    cases Nat.beq n i || ordered b i n || !isLoad (kindOf p.op)
    · exact List.mem_cons_of_mem _ this
    · exact this
theorem keepsOf_inv {b : List Nat} {i : Nat} : ∀ {l : List Oper} {n : Nat} {ks : List (TypeId × Tmp × Tmp)}, keepsOf b i l n = some ks → ∀ k p, l[k]? = some p → n + k ≠ i → ordered b i (n + k) = false → kindOf p.op = .load →
    n + k < i ∧ ∃ ty t d, p.op = .load ty (.tmp t) ∧ p.dst = some d ∧ (ty, t, d) ∈ ks ∧ (∀ k' q, k ≤ k' → l[k']? = some q → q.dst ≠ some t) ∧ (∀ k' q, k < k' → l[k']? = some q → q.dst ≠ some d)
  | [], n, ks, h, k, q, hq, hne, hf, hk => by simp at hq
  | p :: l, n, ks, h, 0, q, hq, hne, hf, hk => by
    simp only [List.getElem?_cons_zero, Option.some.injEq] at hq
    subst hq
    simp only [Nat.add_zero] at hne hf ⊢
    have hb : Nat.beq n i = false := by cases h : Nat.beq n i; rfl; simp at h; exact absurd h hne
    simp only [keepsOf, hb, hf, hk, isLoad, Bool.not_true, Bool.or_self, cond_false] at h
    split at h
    · rename_i ty t d hop hd
      obtain ⟨h1, h2⟩ := beq_cond h
      simp only [Option.bind_eq_some_iff, Option.some.injEq] at h2
      obtain ⟨r, h3, rfl⟩ := h2
      simp only [Bool.and_eq_true, Bool.not_eq_true', List.all_eq_true] at h1
      obtain ⟨⟨h4, h5⟩, h6⟩ := h1
      refine ⟨Nat.le_of_ble_eq_true h4, ty, t, d, hop, hd, List.mem_cons_self .., fun k' q _ hq hqd => ?_, fun k' q hk' hq hqd => ?_⟩
      · cases k' with
        | zero =>
          simp only [List.getElem?_cons_zero, Option.some.injEq] at hq
          subst hq
          simp [writesT, hqd] at h5
        | succ k' =>
          have := (h6 q (List.mem_of_getElem? (by simpa using hq))).1
          simp [writesT, hqd] at this
      · cases k' with
        | zero => omega
        | succ k' =>
          have := (h6 q (List.mem_of_getElem? (by simpa using hq))).2
          simp [writesT, hqd] at this
    · simp at h
  | p :: l, n, ks, h, k + 1, q, hq, hne, hf, hk => by
    have hq' : l[k]? = some q := by simpa using hq
    have key : ∀ {ks'}, keepsOf b i l (n + 1) = some ks' → (∀ x ∈ ks', x ∈ ks) → n + (k + 1) < i ∧ ∃ ty t d, q.op = .load ty (.tmp t) ∧ q.dst = some d ∧ (ty, t, d) ∈ ks ∧ (∀ k' q, k + 1 ≤ k' → (p :: l)[k']? = some q → q.dst ≠ some t) ∧ (∀ k' q, k + 1 < k' → (p :: l)[k']? = some q → q.dst ≠ some d) := fun h' hm => by
      obtain ⟨h1, ty, t, d, h2, h3, h4, h5, h6⟩ := keepsOf_inv h' k q hq' (by omega) (by rwa [show n + 1 + k = n + (k + 1) by omega]) hk
      refine ⟨by omega, ty, t, d, h2, h3, hm _ h4, fun k' q' hk' hq' => ?_, fun k' q' hk' hq' => ?_⟩
      · cases k' with
        | zero => omega
        | succ k' => exact h5 k' q' (by omega) (by simpa using hq')
      · cases k' with
        | zero => omega
        | succ k' => exact h6 k' q' (by omega) (by simpa using hq')
    simp only [keepsOf] at h
    cases hc : (Nat.beq n i || ordered b i n || !isLoad (kindOf p.op)) with
    | true => rw [hc] at h; exact key h fun _ h => h
    | false =>
      rw [hc] at h
      simp only [cond_false] at h
      split at h
      · obtain ⟨_, h2⟩ := beq_cond h
        simp only [Option.bind_eq_some_iff, Option.some.injEq] at h2
        obtain ⟨r, h3, rfl⟩ := h2
        exact key h3 fun _ h => List.mem_cons_of_mem _ h
      · simp at h
theorem edgesOk_inv {n i : Nat} : ∀ {l : List Edge}, edgesOk n i l = true → ∀ e ∈ l, e.on < i ∨ ((∃ r, e.ground = .gcOnly r) ∧ e.on < n)
  | [], h, e, he => by simp at he
  | x :: l, h, e, he => by
    simp only [edgesOk, Bool.and_eq_true] at h
    rcases List.mem_cons.1 he with rfl | he
    · have h1 := h.1
      split at h1
      · rename_i r hg; exact .inr ⟨⟨r, hg⟩, Nat.le_of_ble_eq_true h1⟩
      · exact .inl (Nat.le_of_ble_eq_true h1)
    · exact edgesOk_inv h.2 e he
theorem infosFrom_inv {ops : List Oper} {b : List Nat} {n : Nat} : ∀ {l : List Oper} {i : Nat} {r : List Info}, infosFrom ops b n l i = some r → ∀ k o, l[k]? = some o → ∃ inf, r[k]? = some inf ∧ infoAt ops b n (i + k) o = some inf
  | [], i, r, h, k, o', ho => by simp at ho
  | o :: l, i, r, h, 0, o', ho => by
    simp only [infosFrom, Option.bind_eq_some_iff, Option.some.injEq] at h
    obtain ⟨x, h1, r', h2, rfl⟩ := h
    simp only [List.getElem?_cons_zero, Option.some.injEq] at ho
    subst ho
    exact ⟨x, rfl, h1⟩
  | o :: l, i, r, h, k + 1, o', ho => by
    simp only [infosFrom, Option.bind_eq_some_iff, Option.some.injEq] at h
    obtain ⟨x, h1, r', h2, rfl⟩ := h
    obtain ⟨inf, h3, h4⟩ := infosFrom_inv h2 k o' (by simpa using ho)
    exact ⟨inf, by simpa using h3, by rwa [show i + 1 + k = i + (k + 1) by omega] at h4⟩
end
section
variable [Maps] {E : Env}
def isEff (o : Oper) : Prop := kindOf o.op = .store ∨ kindOf o.op = .call
structure Stat (ops : Array Oper) (infos : List Info) : Prop where
  info : ∀ (i : Nat) (o : Oper), ops[i]? = some o → ∃ inf, infos[i]? = some inf
  edge : ∀ (i : Nat) (o : Oper) (e : Edge), ops[i]? = some o → e ∈ o.after → e.on < i ∨ ((∃ r, e.ground = .gcOnly r) ∧ e.on < ops.size)
  tmps : ∀ (i : Nat) (o : Oper) (n : Nat) (p : Oper) (t : Tmp), ops[i]? = some o → ops[n]? = some p → p.dst = some t → (o.dst = some t ∨ t ∈ looksOf ops.toList o) → n = i ∨ Dep ops i n ∨ Dep ops n i
  eff : ∀ (i : Nat) (o : Oper) (n : Nat) (p : Oper), ops[i]? = some o → ops[n]? = some p → isEff o → isEff p → n = i ∨ Dep ops i n ∨ Dep ops n i
  alc : ∀ (i : Nat) (o : Oper) (n : Nat) (p : Oper), ops[i]? = some o → ops[n]? = some p → isEff o → kindOf p.op = .alloc → n < i → Dep ops i n
  grow : ∀ (i : Nat) (o : Oper) (n : Nat) (p : Oper) (inf : Info), ops[i]? = some o → ops[n]? = some p → kindOf o.op = .call → kindOf p.op = .load → infos[i]? = some inf → ¬ Dep ops i n → ¬ Dep ops n i → inf.grow = true ∨
    (n < i ∧ ∃ ty t d, p.op = .load ty (.tmp t) ∧ p.dst = some d ∧ (ty, t, d) ∈ inf.keep ∧ (∀ (k : Nat) (q : Oper), n ≤ k → ops[k]? = some q → q.dst ≠ some t) ∧ (∀ (k : Nat) (q : Oper), n < k → ops[k]? = some q → q.dst ≠ some d))
  stl : ∀ (i : Nat) (o : Oper) (n : Nat) (p : Oper) (inf : Info), ops[i]? = some o → ops[n]? = some p → kindOf o.op = .store → kindOf p.op = .load → infos[i]? = some inf → ¬ Dep ops i n → ¬ Dep ops n i →
    n < i ∧ p.op ∈ inf.apart ∧ ∃ t, ((∃ ty, p.op = .load ty (.tmp t)) ∨ ∃ ty lo hi mx, p.op = .slice ty (.tmp t) lo hi mx) ∧ ∀ (k : Nat) (q : Oper), n ≤ k → ops[k]? = some q → q.dst ≠ some t
  store : ∀ (i : Nat) (o : Oper) (inf : Info), ops[i]? = some o → kindOf o.op = .store → infos[i]? = some inf → inf.grow = false
end
section
variable {B lo0 : Nat} {m : Match} {w : World} {P : Program}
theorem Dep.lt {ops : Array Oper} (he : ∀ (i : Nat) (o : Oper) (e : Edge), ops[i]? = some o → e ∈ o.after → e.on < i ∨ ((∃ r, e.ground = .gcOnly r) ∧ e.on < ops.size)) : ∀ {i j : Nat}, Dep ops i j → j < i := by
  intro i
  induction i using Nat.strongRecOn with
  | _ i ih =>
    intro j h
    obtain ⟨o, h1, e, h2, h3, h4⟩ := h.inv
    have h5 : e.on < i := by
      rcases he i o e h1 (by simpa using h2) with h5 | ⟨⟨r, h5⟩, _⟩
      · exact h5
      · simp [Region.binds, h5] at h3
    rcases h4 with h4 | h4
    · omega
    · have := ih e.on h5 h4; omega
theorem ordered_iff {ops : Array Oper} {i n : Nat} : ordered (Region.before ops).toList i n = true ↔ Dep ops i n ∨ Dep ops n i := by
  simp [ordered, Dep, Bool.or_eq_true]
theorem infosOf_inv {ops : Array Oper} {infos : List Info} (h : infosOf ops = some infos) : Stat ops infos ∧ gcOk ops.toList ops.size 20 0 = true := by
  unfold infosOf at h
  obtain ⟨h0, h⟩ := beq_cond h
  have hinf : ∀ (i : Nat) (o : Oper), ops[i]? = some o → ∃ inf, infos[i]? = some inf ∧ infoAt ops.toList (Region.before ops).toList ops.size i o = some inf := fun i o ho => by
    have := infosFrom_inv h i o (by simpa using ho)
    simpa using this
  have hat : ∀ (i : Nat) (o : Oper), ops[i]? = some o → ∃ inf, infos[i]? = some inf ∧ edgesOk ops.size i o.after.toList = true ∧ tmpsOk (maskT ((match o.dst with | some d => [d] | none => []) ++ looksOf ops.toList o)) (Region.before ops).toList i ops.toList 0 = true ∧
      (match kindOf o.op with
      | .store => effOk true (Region.before ops).toList i ops.toList 0 = true ∧ inf = { grow := false, apart := freeLoads (Region.before ops).toList i ops.toList 0, keep := [] }
      | .call => effOk false (Region.before ops).toList i ops.toList 0 = true ∧ ((∃ ks, keepsOf (Region.before ops).toList i ops.toList 0 = some ks ∧ inf = { grow := false, apart := [], keep := ks }) ∨
          inf = { grow := !(freeLoads (Region.before ops).toList i ops.toList 0).isEmpty, apart := [], keep := [] })
      | _ => True) := fun i o ho => by
    obtain ⟨inf, h1, h2⟩ := hinf i o ho
    unfold infoAt at h2
    obtain ⟨h3, h4⟩ := beq_cond h2
    rw [Bool.and_eq_true] at h3
    refine ⟨inf, h1, h3.1, h3.2, ?_⟩
    cases hk : kindOf o.op <;> rw [hk] at h4 <;> simp only at h4 ⊢
    · obtain ⟨h5, h6⟩ := beq_cond h4
      simp only [Option.some.injEq] at h6
      exact ⟨h5, h6.symm⟩
    · obtain ⟨h5, h6⟩ := beq_cond h4
      refine ⟨h5, ?_⟩
      split at h6
      · rename_i ks hks
        simp only [Option.some.injEq] at h6
        exact .inl ⟨ks, (beq_cond hks).2, h6.symm⟩
      · simp only [Option.some.injEq] at h6
        exact .inr h6.symm
  have hop : ∀ {n : Nat} {p : Oper}, ops[n]? = some p → ops.toList[n]? = some p := fun h => by rw [Array.getElem?_toList]; exact h
  have hef : ∀ (i : Nat) (o : Oper), ops[i]? = some o → isEff o → ∃ st, effOk st (Region.before ops).toList i ops.toList 0 = true ∧ (kindOf o.op = .store → st = true) := fun i o ho he => by
    obtain ⟨inf, h1, _, _, h4⟩ := hat i o ho
    rcases he with he | he <;> rw [he] at h4
    · exact ⟨true, h4.1, fun _ => rfl⟩
    · exact ⟨false, h4.1, fun h => by rw [he] at h; cases h⟩
  have hfree : ∀ {i n : Nat}, ¬ Dep ops i n → ¬ Dep ops n i → ordered (Region.before ops).toList i n = false := fun h1 h2 => by
    rw [← Bool.not_eq_true, ordered_iff]; exact fun h => h.elim h1 h2
  have hedge : ∀ (i : Nat) (o : Oper) (e : Edge), ops[i]? = some o → e ∈ o.after → e.on < i ∨ ((∃ r, e.ground = .gcOnly r) ∧ e.on < ops.size) := fun i o e ho he => by
    obtain ⟨inf, _, h2, _⟩ := hat i o ho
    exact edgesOk_inv h2 e (by simpa using he)
  have hne : ∀ (i : Nat) (o : Oper) (n : Nat) (p : Oper), ops[i]? = some o → ops[n]? = some p → kindOf o.op ≠ kindOf p.op → n ≠ i := fun i o n p ho hp hk h => by
    subst h; rw [ho] at hp; cases hp; exact hk rfl
  refine ⟨⟨fun i o ho => ?_, hedge, ?_, ?_, ?_, ?_, ?_, ?_⟩, h0⟩
  · obtain ⟨inf, h1, _⟩ := hinf i o ho; exact ⟨inf, h1⟩
  · intro i o n p t ho hp hd ht
    obtain ⟨inf, _, _, h3, _⟩ := hat i o ho
    have := tmpsOk_inv h3 n p t (hop hp) hd (maskT_iff.2 <| by
      rcases ht with ht | ht
      · rw [ht]; simp
      · exact List.mem_append.2 (.inr ht))
    simp only [Nat.zero_add] at this
    rw [ordered_iff] at this
    exact this
  · intro i o n p ho hp he he'
    by_cases hni : n = i
    · exact .inl hni
    · obtain ⟨st, h1, _⟩ := hef i o ho he
      by_cases hd : Dep ops i n ∨ Dep ops n i
      · exact .inr hd
      · have := effOk_inv h1 n p (hop hp) (by simpa using hni) (by simpa using hfree (fun h => hd (.inl h)) (fun h => hd (.inr h)))
        rcases he' with he' | he'
        · exact absurd he' this.1
        · exact absurd he' this.2.1
  · intro i o n p ho hp he hk hlt
    obtain ⟨st, h1, _⟩ := hef i o ho he
    by_cases hd : Dep ops i n
    · exact hd
    · exfalso
      have hd' : ¬ Dep ops n i := fun h => by have := h.lt hedge; omega
      have := effOk_inv h1 n p (hop hp) (by simp; omega) (by simpa using hfree hd hd')
      have := this.2.2.1 hk
      omega
  · intro i o n p inf ho hp hk hk' hinf' h1 h2
    obtain ⟨inf', h3, _, _, h4⟩ := hat i o ho
    rw [hinf'] at h3
    cases h3
    rw [hk] at h4
    have hni : (0 : Nat) + n ≠ i := by simpa using hne i o n p ho hp (by rw [hk, hk']; simp)
    have hf : ordered (Region.before ops).toList i (0 + n) = false := by simpa using hfree h1 h2
    obtain ⟨_, ⟨ks, hks, rfl⟩ | rfl⟩ := h4
    · obtain ⟨a1, ty, t, d, a2, a3, a4, a5, a6⟩ := keepsOf_inv hks n p (hop hp) hni hf hk'
      exact .inr ⟨by omega, ty, t, d, a2, a3, a4, fun k q hkn hq => a5 k q hkn (hop hq), fun k q hkn hq => a6 k q hkn (hop hq)⟩
    left
    have := freeLoads_inv (b := (Region.before ops).toList) (i := i) (l := ops.toList) (n := 0) (k := n) (hop hp) hni hf hk'
    simp only [Bool.not_eq_true', List.isEmpty_eq_false_iff]
    intro hnil
    rw [hnil] at this
    cases this
  · intro i o n p inf ho hp hk hk' hinf' h1 h2
    obtain ⟨inf', h3, _, _, h4⟩ := hat i o ho
    rw [hinf'] at h3
    cases h3
    rw [hk] at h4
    obtain ⟨h5, rfl⟩ := h4
    have hni : (0 : Nat) + n ≠ i := by simpa using hne i o n p ho hp (by rw [hk, hk']; simp)
    have hf : ordered (Region.before ops).toList i (0 + n) = false := by simpa using hfree h1 h2
    obtain ⟨h6, t, h7, h8⟩ := (effOk_inv h5 n p (hop hp) hni hf).2.2.2 hk' rfl
    exact ⟨by omega, freeLoads_inv (hop hp) hni hf hk', t, h7, fun k q hk hq => h8 k q hk (hop hq)⟩
  · intro i o inf ho hk hinf'
    obtain ⟨inf', h3, _, _, h4⟩ := hat i o ho
    rw [hinf'] at h3
    cases h3
    rw [hk] at h4
    rw [h4.2]
end
section
variable [Maps] {E : Env}
end
section
variable {B lo0 : Nat} {m : Match} {w : World} {P : Program}
theorem all_listed {md : Region.Mode} {ops : Array Oper} {listed : Array Bool} (rank : Nat → Nat) (hrank : ∀ (i : Nat) (o : Oper) (e : Edge), ops[i]? = some o → e ∈ o.after → Region.binds md e = true → e.on < ops.size ∧ rank e.on < rank i)
    (hr : Region.ready md ops listed = []) (hs : listed.size = ops.size) : ∀ i, i < ops.size → listed.getD i true = true := by
  have key : ∀ n i, rank i = n → i < ops.size → listed.getD i true = true := by
    intro n
    induction n using Nat.strongRecOn with
    | _ n ih =>
      intro i hi hlt
      by_cases hl : listed.getD i true = true
      · exact hl
      · exfalso
        have hmem : i ∈ Region.ready md ops listed := mem_ready.2 ⟨by simpa using hl, ops[i], Array.getElem?_eq_getElem hlt, fun e he hb => by
          obtain ⟨h1, h2⟩ := hrank i ops[i] e (Array.getElem?_eq_getElem hlt) he hb
          have h3 := ih (rank e.on) (by omega) e.on rfl h1
          have hlt' : e.on < listed.size := by rw [hs]; exact h1
          rw [Array.getD_eq_getD_getElem?, Array.getElem?_eq_getElem hlt'] at h3 ⊢
          simpa using h3⟩
        rw [hr] at hmem
        cases hmem
  exact fun i hi => key _ i rfl hi
theorem edgesIn_inv {m : Nat} : ∀ {l : List Edge}, edgesIn m l = true → ∀ e ∈ l, Region.binds .gc e = true → m.testBit e.on = true
  | [], h, e, he, hb => by simp at he
  | x :: l, h, e, he, hb => by
    simp only [edgesIn, Bool.and_eq_true, Bool.or_eq_true, Bool.not_eq_true'] at h
    rcases List.mem_cons.1 he with rfl | he
    · rcases h.1 with h1 | h1
      · exfalso
        unfold bindsGc at h1
        split at h1
        · rename_i hg; simp [Region.binds, hg] at hb
        · cases h1
      · rw [← bitOf_eq]; exact h1
    · exact edgesIn_inv h.2 e he hb
theorem gcPass_inv {ops : Array Oper} {listed : Array Bool} (hr : Region.ready .gc ops listed = []) (hs : listed.size = ops.size) : ∀ (l : List Oper) (i m : Nat), (∀ k o, l[k]? = some o → ops[i + k]? = some o) → (∀ j, m.testBit j = true → j < ops.size ∧ listed.getD j true = true) →
    ∀ j, (gcPass l i m).testBit j = true → j < ops.size ∧ listed.getD j true = true
  | [], i, m, _, hm, j, hj => hm j hj
  | o :: l, i, m, hl, hm, j, hj => by
    have hl' : ∀ k o, l[k]? = some o → ops[i + 1 + k]? = some o := fun k o h => by
      have := hl (k + 1) o (by simpa using h)
      rwa [show i + (k + 1) = i + 1 + k by omega] at this
    have ho : ops[i]? = some o := hl 0 o rfl
    simp only [gcPass] at hj
    cases hb : bitOf m i with
    | true => rw [hb] at hj; exact gcPass_inv hr hs l (i + 1) m hl' hm j hj
    | false =>
      rw [hb] at hj
      simp only [cond_false, forceNat_eq] at hj
      cases he : edgesIn m o.after.toList with
      | false => rw [he] at hj; exact gcPass_inv hr hs l (i + 1) m hl' hm j hj
      | true =>
        rw [he] at hj
        simp only [cond_true] at hj
        refine gcPass_inv hr hs l (i + 1) _ hl' (fun q hq => ?_) j hj
        have h1 : Nat.lor m (Nat.shiftLeft 1 i) = m ||| (1 <<< i) := rfl
        rw [h1, Nat.testBit_or, Bool.or_eq_true, Nat.one_shiftLeft, Nat.testBit_two_pow] at hq
        rcases hq with hq | hq
        · exact hm q hq
        · have hqi : i = q := by simpa using hq
          subst hqi
          have hlt : i < ops.size := (Array.getElem?_eq_some_iff.1 ho).1
          refine ⟨hlt, ?_⟩
          by_cases hd : listed.getD i true = true
          · exact hd
          · exfalso
            have : i ∈ Region.ready .gc ops listed := mem_ready.2 ⟨by simpa using hd, o, ho, fun e hea hbb => by
              obtain ⟨h2, h3⟩ := hm e.on (edgesIn_inv he e (by simpa using hea) hbb)
              have hlt' : e.on < listed.size := by rw [hs]; exact h2
              rw [Array.getD_eq_getD_getElem?, Array.getElem?_eq_getElem hlt'] at h3 ⊢
              simpa using h3⟩
            rw [hr] at this
            cases this
theorem gcOk_inv {ops : Array Oper} {listed : Array Bool} (hr : Region.ready .gc ops listed = []) (hs : listed.size = ops.size) : ∀ (k m : Nat), gcOk ops.toList ops.size k m = true → (∀ j, m.testBit j = true → j < ops.size ∧ listed.getD j true = true) → ∀ i, i < ops.size → listed.getD i true = true
  | 0, m, h, _, i, _ => by simp [gcOk] at h
  | k + 1, m, h, hm, i, hi => by
    simp only [gcOk, forceNat_eq] at h
    have hp := gcPass_inv hr hs ops.toList 0 m (fun k o h => by rw [Nat.zero_add, ← Array.getElem?_toList]; exact h) hm
    cases hb : Nat.beq (gcPass ops.toList 0 m) (Nat.sub (Nat.shiftLeft 1 ops.size) 1) with
    | true =>
      have h1 : gcPass ops.toList 0 m = 2 ^ ops.size - 1 := by
        have h2 : gcPass ops.toList 0 m = Nat.sub (Nat.shiftLeft 1 ops.size) 1 := by simpa using hb
        have h3 : Nat.sub (Nat.shiftLeft 1 ops.size) 1 = (1 <<< ops.size) - 1 := rfl
        rw [h2, h3, Nat.one_shiftLeft]
      exact (hp i (by rw [h1, Nat.testBit_two_pow_sub_one]; simpa using hi)).2
    | false =>
      rw [hb] at h
      exact gcOk_inv hr hs k _ h hp i hi
end
section
variable [Maps] {E : Env}
theorem keepOk_objs {T : Tr Value} {H H' : Heap} (h : H.objs = H'.objs) : ∀ (ks : List (TypeId × Tmp × Tmp)), keepOk E T H ks = keepOk E T H' ks
  | [] => rfl
  | (ty, t, d) :: l => by
    have : ∀ a, loadV E H ty a = loadV E H' ty a := fun a => by unfold loadV; rw [h]
    simp only [keepOk, this, keepOk_objs h l]
structure Text (E : Env) (call : Caller) (all : List Oper) (size : Nat) (ops : List Oper) (infos : List Info) (T : Nat → Tr Value) (H : Nat → Heap) (v : Nat → Value) (wt : Nat → Bool) : Prop where
  want : ∀ i o, ops[i]? = some o → wantedA (T i) all o = some (wt i)
  put : ∀ i o, ops[i]? = some o → putT size (T i) o.dst (v i) = some (T (i + 1))
  skip : ∀ i o, ops[i]? = some o → wt i = false → v i = undef ∧ H (i + 1) = H i
  done : ∀ i o inf, ops[i]? = some o → infos[i]? = some inf → wt i = true → storeApart E (T i) (H i) o.op inf.apart = true ∧
    ∃ H', exOp E call (T i) o { objs := (H i).objs, grps := (H i).grps, next := (H i).next, lo := bif inf.grow then (H i).next else (H i).lo } = some (v i, H') ∧ H (i + 1) = { objs := H'.objs, grps := H'.grps, next := H'.next, lo := (H i).lo }
  kept : ∀ i o inf, ops[i]? = some o → infos[i]? = some inf → wt i = true → keepOk E (T i) (H (i + 1)) inf.keep = true
def consF {α : Type} (x : α) (f : Nat → α) : Nat → α
  | 0 => x
  | n + 1 => f n
theorem text_of {call : Caller} {all : List Oper} {size : Nat} : ∀ {ops : List Oper} {infos : List Info} {T T' : Tr Value} {H H' : Heap}, exDraw E call all size ops infos T H = some (T', H') →
    ∃ Tf Hf vf wf, Tf 0 = T ∧ Hf 0 = H ∧ Tf ops.length = T' ∧ Hf ops.length = H' ∧ Text E call all size ops infos Tf Hf vf wf
  | [], infos, T, T', H, H', h => by
    simp only [exDraw, Option.some.injEq, Prod.mk.injEq] at h
    exact ⟨fun _ => T, fun _ => H, fun _ => undef, fun _ => false, rfl, rfl, h.1, h.2, ⟨fun i o h => by simp at h, fun i o h => by simp at h, fun i o h => by simp at h, fun i o inf h => by simp at h, fun i o inf h => by simp at h⟩⟩
  | o :: ops, [], T, T', H, H', h => by simp [exDraw] at h
  | o :: ops, inf :: infos, T, T', H, H', h => by
    simp only [exDraw, forceH_eq] at h
    split at h
    · simp at h
    · rename_i hw
      obtain ⟨ha, h⟩ := beq_cond h
      simp only [Option.bind_eq_some_iff] at h
      obtain ⟨r, h1, h⟩ := h
      obtain ⟨hkp, h⟩ := beq_cond h
      simp only [Option.bind_eq_some_iff] at h
      obtain ⟨T1, h2, h3⟩ := h
      obtain ⟨Tf, Hf, vf, wf, e1, e2, e3, e4, e5⟩ := text_of h3
      refine ⟨consF T Tf, consF H Hf, consF r.1 vf, consF true wf, rfl, rfl, e3, e4, ⟨?_, ?_, ?_, ?_, ?_⟩⟩
      · intro i o' ho'
        cases i with
        | zero => simp only [List.getElem?_cons_zero, Option.some.injEq] at ho'; subst ho'; exact hw
        | succ i => exact e5.want i o' (by simpa using ho')
      · intro i o' ho'
        cases i with
        | zero => simp only [List.getElem?_cons_zero, Option.some.injEq] at ho'; subst ho'; simp only [consF, e1, h2]
        | succ i => exact e5.put i o' (by simpa using ho')
      · intro i o' ho' hwt
        cases i with
        | zero => simp [consF] at hwt
        | succ i => exact e5.skip i o' (by simpa using ho') hwt
      · intro i o' inf' ho' hi' hwt
        cases i with
        | zero =>
          simp only [List.getElem?_cons_zero, Option.some.injEq] at ho' hi'; subst ho'; subst hi'
          exact ⟨ha, r.2, h1, by simp only [consF, e2]⟩
        | succ i => exact e5.done i o' inf' (by simpa using ho') (by simpa using hi') hwt
      · intro i o' inf' ho' hi' hwt
        cases i with
        | zero =>
          simp only [List.getElem?_cons_zero, Option.some.injEq] at ho' hi'; subst ho'; subst hi'
          simp only [consF, e2]
          rw [← hkp]
          exact keepOk_objs (H := { objs := r.2.objs, grps := r.2.grps, next := r.2.next, lo := H.lo }) (H' := r.2) rfl _
        | succ i => exact e5.kept i o' inf' (by simpa using ho') (by simpa using hi') hwt
    · rename_i hw
      simp only [Option.bind_eq_some_iff] at h
      obtain ⟨T1, h2, h3⟩ := h
      obtain ⟨Tf, Hf, vf, wf, e1, e2, e3, e4, e5⟩ := text_of h3
      refine ⟨consF T Tf, consF H Hf, consF undef vf, consF false wf, rfl, rfl, e3, e4, ⟨?_, ?_, ?_, ?_, ?_⟩⟩
      · intro i o' ho'
        cases i with
        | zero => simp only [List.getElem?_cons_zero, Option.some.injEq] at ho'; subst ho'; exact hw
        | succ i => exact e5.want i o' (by simpa using ho')
      · intro i o' ho'
        cases i with
        | zero => simp only [List.getElem?_cons_zero, Option.some.injEq] at ho'; subst ho'; simp only [consF, e1, h2]
        | succ i => exact e5.put i o' (by simpa using ho')
      · intro i o' ho' hwt
        cases i with
        | zero => exact ⟨rfl, e2⟩
        | succ i => exact e5.skip i o' (by simpa using ho') hwt
      · intro i o' inf' ho' hi' hwt
        cases i with
        | zero => simp [consF] at hwt
        | succ i => exact e5.done i o' inf' (by simpa using ho') (by simpa using hi') hwt
      · intro i o' inf' ho' hi' hwt
        cases i with
        | zero => simp [consF] at hwt
        | succ i => exact e5.kept i o' inf' (by simpa using ho') (by simpa using hi') hwt
end
end Go.AM

namespace Go.AM
section
variable [Maps] {B lo0 : Nat} {E : Env}
def below (m : Match) (n : Nat) : Match := fun r => if r < n then m r else none
end
section
variable {B lo0 : Nat} {m : Match} {w : World} {P : Program}
theorem below_iff {m : Match} {n r : Nat} {p : Spot} : below m n r = some p ↔ r < n ∧ m r = some p := by
  unfold below
  split
  · simp_all
  · simp only [reduceCtorEq, false_iff, not_and]
    omega
theorem below_le (m : Match) (n : Nat) : (below m n).le m := fun _ _ h => (below_iff.1 h).2
theorem below_mono (m : Match) {n n' : Nat} (h : n ≤ n') : (below m n).le (below m n') := fun _ _ hr => below_iff.2 ⟨Nat.lt_of_lt_of_le (below_iff.1 hr).1 h, (below_iff.1 hr).2⟩
theorem below_of_le {m m' : Match} (h : m.le m') (n : Nat) : (below m n).le (below m' n) := fun _ _ hr => below_iff.2 ⟨(below_iff.1 hr).1, h _ _ (below_iff.1 hr).2⟩
end
section
variable [Maps] {B lo0 : Nat} {E : Env}
structure RelK (B lo0 : Nat) (m : Match) (K : Nat → Nat → AObj → Prop) (G : Nat → List Nat → Prop) (w : World) : Prop where
  base : B ≤ w.heap.size
  dom : ∀ r p, m r = some p → p.blk < w.heap.size ∧ (lo0 ≤ r → B ≤ p.blk) ∧ (r < lo0 → p.blk < B)
  obj : ∀ u r p o, m r = some p → K u r o → ObjRel (decide (lo0 ≤ r)) (below m u) p w o
  sep : ∀ u u' r r' p p' o o', r ≠ r' → lo0 ≤ r → m r = some p → m r' = some p' → K u r o → K u' r' o' → p.blk = p'.blk → Mates o o'
  tip : ∀ u u' r r' p p' c c' g z z', m r = some p → m r' = some p' → K u r (.row c (some (g, z)) true) → K u' r' (.row c' (some (g, z')) true) → r = r'
  old : ∀ u r p c g z, m r = some p → K u r (.row c (some (g, z)) false) → ∀ l, G g l → r ∈ l
  ends : ∀ u u' r r' p p' c c' g z z' t, m r = some p → m r' = some p' → K u r (.row c (some (g, z)) true) → K u' r' (.row c' (some (g, z')) t) → p.blk = p'.blk → p'.base + c'.length ≤ p.base + c.length
  grp : ∀ u r p c g z t, m r = some p → K u r (.row c (some (g, z)) t) → g < u
  glo : GN ≤ B ∧ GL w
theorem RelK.rel {m : Match} {K : Nat → Nat → AObj → Prop} {G : Nat → List Nat → Prop} {w : World} (h : RelK B lo0 m K G w) {H : Heap} {n : Nat} (hlo : lo0 ≤ H.lo) (hn : H.lo ≤ H.next) (hN : n ≤ H.next)
    (hk : ∀ r p o, m r = some p → r < n → H.objs.get r = some o → ∃ u, u ≤ n ∧ K u r o) (hg : ∀ g l, H.grps.get g = some l → G g l) : Rel B lo0 (below m n) H w where
  base := h.base
  glo := h.glo
  lo := hlo
  nxt := hn
  dom r p hr := by
    obtain ⟨h1, h2⟩ := below_iff.1 hr
    obtain ⟨a, b, c⟩ := h.dom r p h2
    exact ⟨by omega, a, b, c⟩
  obj r p o hr ho := by
    obtain ⟨h1, h2⟩ := below_iff.1 hr
    obtain ⟨u, h3, h4⟩ := hk r p o h2 h1 ho
    exact (h.obj u r p o h2 h4).mono (below_mono m h3) rfl
  sep r r' p p' o o' hne hl hr hr' ho ho' hb := by
    obtain ⟨h1, h2⟩ := below_iff.1 hr
    obtain ⟨h1', h2'⟩ := below_iff.1 hr'
    obtain ⟨u, _, h4⟩ := hk r p o h2 h1 ho
    obtain ⟨u', _, h4'⟩ := hk r' p' o' h2' h1' ho'
    exact h.sep u u' r r' p p' o o' hne hl h2 h2' h4 h4' hb
  tip r r' p p' c c' g z z' hr hr' ho ho' := by
    obtain ⟨h1, h2⟩ := below_iff.1 hr
    obtain ⟨h1', h2'⟩ := below_iff.1 hr'
    obtain ⟨u, _, h4⟩ := hk r p _ h2 h1 ho
    obtain ⟨u', _, h4'⟩ := hk r' p' _ h2' h1' ho'
    exact h.tip u u' r r' p p' c c' g z z' h2 h2' h4 h4'
  old r p c g z hr ho l hl := by
    obtain ⟨h1, h2⟩ := below_iff.1 hr
    obtain ⟨u, _, h4⟩ := hk r p _ h2 h1 ho
    exact h.old u r p c g z h2 h4 l (hg g l hl)
  ends r r' p p' c c' g z z' t hr hr' ho ho' hb := by
    obtain ⟨h1, h2⟩ := below_iff.1 hr
    obtain ⟨h1', h2'⟩ := below_iff.1 hr'
    obtain ⟨u, _, h4⟩ := hk r p _ h2 h1 ho
    obtain ⟨u', _, h4'⟩ := hk r' p' _ h2' h1' ho'
    exact h.ends u u' r r' p p' c c' g z z' t h2 h2' h4 h4' hb
  grp r p c g z t hr ho := by
    obtain ⟨h1, h2⟩ := below_iff.1 hr
    obtain ⟨u, h3, h4⟩ := hk r p _ h2 h1 ho
    have := h.grp u r p c g z t h2 h4
    omega
theorem RelK.of_rel {m : Match} {H : Heap} {w : World} (h : Rel B lo0 m H w) : RelK B lo0 m (fun u r o => u = H.next ∧ H.objs.get r = some o) (fun g l => H.grps.get g = some l) w where
  base := h.base
  glo := h.glo
  dom r p hr := (h.dom r p hr).2
  obj u r p o hr ho := by
    obtain ⟨rfl, ho⟩ := ho
    exact (h.obj r p o hr ho).mono (fun r p hr => below_iff.2 ⟨(h.dom r p hr).1, hr⟩) rfl
  sep u u' r r' p p' o o' hne hl hr hr' ho ho' hb := h.sep r r' p p' o o' hne hl hr hr' ho.2 ho'.2 hb
  tip u u' r r' p p' c c' g z z' hr hr' ho ho' := h.tip r r' p p' c c' g z z' hr hr' ho.2 ho'.2
  old u r p c g z hr ho l hl := h.old r p c g z hr ho.2 l hl
  ends u u' r r' p p' c c' g z z' t hr hr' ho ho' hb := h.ends r r' p p' c c' g z z' t hr hr' ho.2 ho'.2 hb
  grp u r p c g z t hr ho := by
    obtain ⟨rfl, ho⟩ := ho
    exact h.grp r p c g z t hr ho
theorem RelK.anti {m : Match} {K K' : Nat → Nat → AObj → Prop} {G G' : Nat → List Nat → Prop} {w : World} (h : RelK B lo0 m K G w) (hk : ∀ u r p o, m r = some p → K' u r o → ∃ u', u' ≤ u ∧ K u' r o) (hg : ∀ g l, G' g l → G g l) : RelK B lo0 m K' G' w where
  base := h.base
  glo := h.glo
  dom := h.dom
  obj u r p o hr ho := by
    obtain ⟨u', h1, h2⟩ := hk u r p o hr ho
    exact (h.obj u' r p o hr h2).mono (below_mono m h1) rfl
  sep u u' r r' p p' o o' hne hl hr hr' ho ho' hb := by
    obtain ⟨_, _, h2⟩ := hk u r p o hr ho
    obtain ⟨_, _, h2'⟩ := hk u' r' p' o' hr' ho'
    exact h.sep _ _ r r' p p' o o' hne hl hr hr' h2 h2' hb
  tip u u' r r' p p' c c' g z z' hr hr' ho ho' := by
    obtain ⟨_, _, h2⟩ := hk u r p _ hr ho
    obtain ⟨_, _, h2'⟩ := hk u' r' p' _ hr' ho'
    exact h.tip _ _ r r' p p' c c' g z z' hr hr' h2 h2'
  old u r p c g z hr ho l hl := by
    obtain ⟨_, _, h2⟩ := hk u r p _ hr ho
    exact h.old _ r p c g z hr h2 l (hg g l hl)
  ends u u' r r' p p' c c' g z z' t hr hr' ho ho' hb := by
    obtain ⟨_, _, h2⟩ := hk u r p _ hr ho
    obtain ⟨_, _, h2'⟩ := hk u' r' p' _ hr' ho'
    exact h.ends _ _ r r' p p' c c' g z z' t hr hr' h2 h2' hb
  grp u r p c g z t hr ho := by
    obtain ⟨_, h1, h2⟩ := hk u r p _ hr ho
    have := h.grp _ r p c g z t hr h2
    omega
theorem RelK.extend {m m' : Match} {K K' : Nat → Nat → AObj → Prop} {G : Nat → List Nat → Prop} {w w' : World} (h : RelK B lo0 m K G w) (hle : m.le m') (hsz : w.heap.size ≤ w'.heap.size)
    (hblk : ∀ b, b < w.heap.size → w'.heap[b]? = w.heap[b]?) (hnew : ∀ r p, m' r = some p → m r = none → lo0 ≤ r ∧ w.heap.size ≤ p.blk ∧ p.blk < w'.heap.size) (hone : ∀ r r' p p', m' r = some p → m r = none → m' r' = some p' → m r' = none → r = r')
    (hK : ∀ u r p o, m' r = some p → K' u r o → (m r = some p ∧ K u r o) ∨ (m r = none ∧ plainObj o ∧ ObjRel (decide (lo0 ≤ r)) (below m' u) p w' o)) : RelK B lo0 m' K' G w' where
  base := Nat.le_trans h.base hsz
  glo := ⟨h.glo.1, GL_of (fun b hb => hblk b (Nat.lt_of_lt_of_le hb (Nat.le_trans h.glo.1 h.base))) h.glo.2⟩
  dom r p hr := by
    cases hm : m r with
    | some q =>
      have := hle r q hm
      rw [hr] at this; cases this
      obtain ⟨a, b, c⟩ := h.dom r p hm
      exact ⟨Nat.lt_of_lt_of_le a hsz, b, c⟩
    | none =>
      obtain ⟨a, b, c⟩ := hnew r p hr hm
      have := h.base
      exact ⟨c, fun _ => by omega, fun h => by omega⟩
  obj u r p o hr ho := by
    rcases hK u r p o hr ho with ⟨h1, h2⟩ | ⟨_, _, h3⟩
    · exact (h.obj u r p o h1 h2).mono (below_of_le hle u) (hblk _ (h.dom r p h1).1)
    · exact h3
  sep u u' r r' p p' o o' hne hl hr hr' ho ho' hb := by
    rcases hK u r p o hr ho with ⟨h1, h2⟩ | ⟨h1, _, _⟩ <;> rcases hK u' r' p' o' hr' ho' with ⟨h1', h2'⟩ | ⟨h1', _, _⟩
    · exact h.sep u u' r r' p p' o o' hne hl h1 h1' h2 h2' hb
    · have := (h.dom r p h1).1
      have := (hnew r' p' hr' h1').2.1
      omega
    · have := (h.dom r' p' h1').1
      have := (hnew r p hr h1).2.1
      omega
    · exact absurd (hone r r' p p' hr h1 hr' h1') hne
  tip u u' r r' p p' c c' g z z' hr hr' ho ho' := by
    rcases hK u r p _ hr ho with ⟨h1, h2⟩ | ⟨_, h3, _⟩
    · rcases hK u' r' p' _ hr' ho' with ⟨h1', h2'⟩ | ⟨_, h3, _⟩
      · exact h.tip u u' r r' p p' c c' g z z' h1 h1' h2 h2'
      · exact absurd rfl (h3 _ _ _)
    · exact absurd rfl (h3 _ _ _)
  old u r p c g z hr ho l hl := by
    rcases hK u r p _ hr ho with ⟨h1, h2⟩ | ⟨_, h3, _⟩
    · exact h.old u r p c g z h1 h2 l hl
    · exact absurd rfl (h3 _ _ _)
  ends u u' r r' p p' c c' g z z' t hr hr' ho ho' hb := by
    rcases hK u r p _ hr ho with ⟨h1, h2⟩ | ⟨_, h3, _⟩
    · rcases hK u' r' p' _ hr' ho' with ⟨h1', h2'⟩ | ⟨_, h3, _⟩
      · exact h.ends u u' r r' p p' c c' g z z' t h1 h1' h2 h2' hb
      · exact absurd rfl (h3 _ _ _)
    · exact absurd rfl (h3 _ _ _)
  grp u r p c g z t hr ho := by
    rcases hK u r p _ hr ho with ⟨h1, h2⟩ | ⟨_, h3, _⟩
    · exact h.grp u r p c g z t h1 h2
    · exact absurd rfl (h3 _ _ _)
structure Outer (m : Match) (H : Heap) (w₀ : World) (n : Nat → Nat) (S : Nat → Prop) (M : Match) (w : World) : Prop where
  le : m.le M
  dom : ∀ r p, M r = some p → (m r = some p ∧ r < n 0) ∨ (m r = none ∧ ∃ j, S j ∧ n j ≤ r ∧ r < n (j + 1))
  blk : ∀ r p, M r = some p → m r = none → w₀.heap.size ≤ p.blk ∨ ∃ r₀ p₀, m r₀ = some p₀ ∧ H.lo ≤ r₀ ∧ p₀.blk = p.blk
  frame : ∀ b, b < w₀.heap.size → (∀ r p, m r = some p → H.lo ≤ r → p.blk ≠ b) → w.heap[b]? = w₀.heap[b]?
  size : w₀.heap.size ≤ w.heap.size
  os : w.os = w₀.os ∧ w.output = w₀.output
def join (M m' : Match) (a b : Nat) : Match := fun r => if a ≤ r ∧ r < b then m' r else M r
theorem Outer.step {m : Match} {H : Heap} {w₀ : World} {n : Nat → Nat} {S : Nat → Prop} {M : Match} {w : World} (hO : Outer m H w₀ n S M w) {i : Nat} (hm0 : ∀ r p, m r = some p → r < n i) {Hx Hx' : Heap} {m' : Match} {w' : World}
    (hg : Good B lo0 (below M (n i)) Hx w m' Hx' w') (hlo : H.lo ≤ Hx.lo) : Outer m H w₀ n (fun j => S j ∨ j = i) (join M m' (n i) (n (i + 1))) w' where
  le r p hr := by
    have := hm0 r p hr
    unfold join
    rw [if_neg (by omega)]
    exact hO.le r p hr
  dom r p hr := by
    unfold join at hr
    split at hr
    · rename_i hin
      refine .inr ⟨?_, i, .inr rfl, hin⟩
      cases hm : m r with
      | none => rfl
      | some q => have := hm0 r q hm; omega
    · rcases hO.dom r p hr with h | ⟨h0, j, h1, h2⟩
      · exact .inl h
      · exact .inr ⟨h0, j, .inl h1, h2⟩
  blk r p hr hm := by
    unfold join at hr
    split at hr
    · rename_i hin
      have hnone : below M (n i) r = none := by
        unfold below; rw [if_neg (by omega)]
      rcases hg.blk r p hr hnone with h | ⟨r₀, p₀, h1, h2, h3⟩
      · exact .inl (Nat.le_trans hO.size h)
      · have h1 := (below_iff.1 h1).2
        cases hm₀ : m r₀ with
        | none =>
          rcases hO.blk r₀ p₀ h1 hm₀ with h | ⟨r₁, p₁, h4, h5, h6⟩
          · exact .inl (by rw [← h3]; exact h)
          · exact .inr ⟨r₁, p₁, h4, h5, h6.trans h3⟩
        | some q =>
          have := hO.le r₀ q hm₀
          rw [h1] at this; cases this
          exact .inr ⟨r₀, p₀, hm₀, Nat.le_trans hlo h2, h3⟩
    · exact hO.blk r p hr hm
  frame b hb hf := by
    refine (hg.frame b (Nat.lt_of_lt_of_le hb hO.size) fun r p hr hl hpb => ?_).trans (hO.frame b hb hf)
    have hr := (below_iff.1 hr).2
    cases hm : m r with
    | none =>
      rcases hO.blk r p hr hm with h | ⟨r₀, p₀, h1, h2, h3⟩
      · omega
      · exact hf r₀ p₀ h1 h2 (h3.trans hpb)
    | some q =>
      have := hO.le r q hm
      rw [hr] at this; cases this
      exact hf r p hm (Nat.le_trans hlo hl) hpb
  size := Nat.le_trans hO.size hg.size
  os := ⟨hg.os.1.trans hO.os.1, hg.os.2.trans hO.os.2⟩
theorem Outer.skip {m : Match} {H : Heap} {w₀ : World} {n : Nat → Nat} {S : Nat → Prop} {M : Match} {w : World} (hO : Outer m H w₀ n S M w) (i : Nat) : Outer m H w₀ n (fun j => S j ∨ j = i) M w :=
  ⟨hO.le, fun r p hr => by
    rcases hO.dom r p hr with h | ⟨h0, j, h1, h2⟩
    · exact .inl h
    · exact .inr ⟨h0, j, .inl h1, h2⟩, hO.blk, hO.frame, hO.size, hO.os⟩
end
end Go.AM

namespace Go.AM
section
variable [Maps] {B lo0 : Nat} {E : Env}
theorem rel_none {M : Match} {K : Nat → Nat → AObj → Prop} {G : Nat → List Nat → Prop} {w : World} (h : RelK B lo0 M K G w) {n nx : Nat} (hn : n ≤ nx) (hlo : lo0 ≤ nx) : Rel B lo0 (below M n) { objs := Tr.nil, grps := Tr.nil, next := nx, lo := nx } w :=
  h.rel hlo (Nat.le_refl _) hn (fun r p o _ _ ho => by simp [Tr.get_nil] at ho) (fun g l hl => by simp [Tr.get_nil] at hl)
theorem get_one {α : Type} {r j : Nat} {a x : α} (h : ((Tr.nil : Tr α).set r a).get j = some x) : j = r ∧ x = a := by
  rcases Tr.get_set h with h | ⟨_, h⟩
  · exact h
  · simp [Tr.get_nil] at h
theorem rel_one {M : Match} {K : Nat → Nat → AObj → Prop} {G : Nat → List Nat → Prop} {w : World} (h : RelK B lo0 M K G w) {n nx r : Nat} {p : Spot} {ob : AObj} (hn : n ≤ nx) (hlo : lo0 ≤ nx) (hm : M r = some p)
    (hob : ObjRel (decide (lo0 ≤ r)) (below M n) p w ob) (hg : ∀ c g z t, ob = .row c (some (g, z)) t → g < n) : Rel B lo0 (below M n) { objs := Tr.nil.set r ob, grps := Tr.nil, next := nx, lo := nx } w where
  base := h.base
  glo := h.glo
  lo := hlo
  nxt := Nat.le_refl _
  dom r p hr := by
    obtain ⟨h1, h2⟩ := below_iff.1 hr
    obtain ⟨a, b, c⟩ := h.dom r p h2
    exact ⟨Nat.lt_of_lt_of_le h1 hn, a, b, c⟩
  obj r' p' o hr ho := by
    obtain ⟨rfl, rfl⟩ := get_one ho
    have := (below_iff.1 hr).2
    rw [hm] at this; cases this
    exact hob
  sep r1 r2 p1 p2 o1 o2 hne hl hr1 hr2 ho1 ho2 hb := by
    obtain ⟨rfl, _⟩ := get_one ho1
    obtain ⟨rfl, _⟩ := get_one ho2
    exact absurd rfl hne
  tip r1 r2 p1 p2 c c' g z z' hr1 hr2 ho1 ho2 := by
    obtain ⟨rfl, _⟩ := get_one ho1
    obtain ⟨rfl, _⟩ := get_one ho2
    rfl
  old r1 p1 c g z hr1 ho1 l hl := by simp [Tr.get_nil] at hl
  ends r1 r2 p1 p2 c c' g z z' t hr1 hr2 ho1 ho2 hb := by
    obtain ⟨rfl, h1⟩ := get_one ho1
    obtain ⟨rfl, h2⟩ := get_one ho2
    rw [hr1] at hr2; cases hr2
    rw [← h1] at h2; cases h2
    exact Nat.le_refl _
  grp r1 p1 c g z t hr1 ho1 := by
    obtain ⟨rfl, h1⟩ := get_one ho1
    exact Nat.lt_of_lt_of_le (hg c g z t h1.symm) hn
end
section
variable {B lo0 : Nat} {m : Match} {w : World} {P : Program} {ops : Array Oper} {size : Nat}
theorem row_matched {m : Match} {u u' : Value} {r : Nat} (hu : VRel m u u') (hr : rowOfV u = some r) : ∃ p, m r = some p := by
  cases hu <;> simp only [rowOfV, reduceCtorEq, Option.some.injEq] at hr
  · rename_i h; subst hr; exact ⟨_, h⟩
  · rename_i h _ _ _; subst hr; exact ⟨_, h⟩
  · rename_i h _; subst hr; exact ⟨_, h⟩
  · rename_i h; subst hr; exact ⟨_, h⟩
end
section
variable [Maps] {B lo0 : Nat} {E : Env}
structure Setup (E : Env) (call : Caller) (ops : Array Oper) (infos : List Info) (size : Nat) (T : Nat → Tr Value) (H : Nat → Heap) (v : Nat → Value) (wt : Nat → Bool) : Prop where
  env : EnvOk E
  low : CallLow call
  stat : Stat ops infos
  text : Text E call ops.toList size ops.toList infos T H v wt
  lo : (H 0).lo ≤ (H 0).next
  tm : ∀ t u, (T 0).get t = some u → t < size
  size : Maps.lim size = true
  next : Maps.lim (H ops.size).next = true
variable {call : Caller} {ops : Array Oper} {infos : List Info} {size : Nat} {T : Nat → Tr Value} {H : Nat → Heap} {v : Nat → Value} {wt : Nat → Bool}
end
section
variable {B lo0 : Nat} {m : Match} {w : World} {P : Program} {ops : Array Oper} {size : Nat}
theorem op_list {i : Nat} {o : Oper} (h : ops[i]? = some o) : ops.toList[i]? = some o := by rw [Array.getElem?_toList]; exact h
theorem op_lt {i : Nat} {o : Oper} (h : ops[i]? = some o) : i < ops.size := (Array.getElem?_eq_some_iff.1 h).1
theorem op_at {i : Nat} (h : i < ops.size) : ∃ o, ops[i]? = some o := ⟨ops[i], Array.getElem?_eq_getElem h⟩
end
section
variable [Maps] {B lo0 : Nat} {E : Env}
variable {call : Caller} {ops : Array Oper} {infos : List Info} {size : Nat} {T : Nat → Tr Value} {H : Nat → Heap} {v : Nat → Value} {wt : Nat → Bool}
theorem Setup.low1 (hS : Setup E call ops infos size T H v wt) {i : Nat} {o : Oper} (ho : ops[i]? = some o) (hl : (H i).lo ≤ (H i).next) : Low (H i) (H (i + 1)) := by
  cases hw : wt i with
  | false => rw [(hS.text.skip i o (op_list ho) hw).2]; exact .refl _
  | true =>
    obtain ⟨inf, hi⟩ := hS.stat.info i o ho
    obtain ⟨_, H', h1, h2⟩ := hS.text.done i o inf (op_list ho) hi hw
    rw [h2]
    exact low_up hl inf.grow (low_exOp hS.low (by cases inf.grow <;> simp <;> omega) h1)
theorem Setup.lows (hS : Setup E call ops infos size T H v wt) : ∀ i, i ≤ ops.size → (H i).lo = (H 0).lo ∧ (H i).lo ≤ (H i).next ∧ (H 0).next ≤ (H i).next
  | 0, _ => ⟨rfl, hS.lo, Nat.le_refl _⟩
  | i + 1, h => by
    obtain ⟨h1, h2, h3⟩ := hS.lows i (by omega)
    obtain ⟨o, ho⟩ := op_at (ops := ops) (i := i) (by omega)
    have := hS.low1 ho h2
    exact ⟨this.lo.trans h1, this.ok h2, Nat.le_trans h3 this.nxt⟩
theorem Setup.low2 (hS : Setup E call ops infos size T H v wt) {i : Nat} {o : Oper} (ho : ops[i]? = some o) : Low (H i) (H (i + 1)) := hS.low1 ho (hS.lows i (Nat.le_of_lt (op_lt ho))).2.1
theorem Setup.mono (hS : Setup E call ops infos size T H v wt) {i j : Nat} (h : i ≤ j) (hj : j ≤ ops.size) : (H i).next ≤ (H j).next := by
  induction j with
  | zero => have : i = 0 := by omega
            rw [this]; exact Nat.le_refl _
  | succ j ih =>
    by_cases hij : i = j + 1
    · rw [hij]; exact Nat.le_refl _
    · obtain ⟨o, ho⟩ := op_at (ops := ops) (i := j) (by omega)
      exact Nat.le_trans (ih (by omega) (by omega)) (hS.low2 ho).nxt
theorem Setup.tlt (hS : Setup E call ops infos size T H v wt) : ∀ i, i ≤ ops.size → ∀ t u, (T i).get t = some u → t < size
  | 0, _, t, u, h => hS.tm t u h
  | i + 1, hi, t, u, h => by
    obtain ⟨o, ho⟩ := op_at (ops := ops) (i := i) (by omega)
    have hp := hS.text.put i o (op_list ho)
    cases hd : o.dst with
    | none => rw [hd] at hp; simp only [putT, Option.some.injEq] at hp; rw [← hp] at h; exact hS.tlt i (by omega) t u h
    | some d =>
      rw [hd] at hp
      simp only [putT] at hp
      obtain ⟨h1, h2⟩ := beq_cond hp
      simp only [Tr.force_eq, Option.some.injEq] at h2
      rw [← h2] at h
      rcases Tr.get_set h with ⟨rfl, _⟩ | ⟨_, h3⟩
      · exact Nat.le_of_ble_eq_true h1
      · exact hS.tlt i (by omega) t u h3
theorem Setup.put_other (hS : Setup E call ops infos size T H v wt) {i : Nat} {o : Oper} (ho : ops[i]? = some o) {t : Tmp} (hd : o.dst ≠ some t) (ht : t < size) : (T (i + 1)).get t = (T i).get t := by
  have hp := hS.text.put i o (op_list ho)
  cases hd' : o.dst with
  | none => rw [hd'] at hp; simp only [putT, Option.some.injEq] at hp; rw [hp]
  | some d =>
    rw [hd'] at hp
    simp only [putT] at hp
    obtain ⟨h1, h2⟩ := beq_cond hp
    simp only [Tr.force_eq, Option.some.injEq] at h2
    rw [← h2]
    exact Tr.get_set_other (fun h => hd (by rw [hd', h])) (Maps.lim_low hS.size (Nat.le_of_lt ht))
theorem Setup.put_self (hS : Setup E call ops infos size T H v wt) {i : Nat} {o : Oper} (ho : ops[i]? = some o) {t : Tmp} (hd : o.dst = some t) {u : Value} (h : (T (i + 1)).get t = some u) : u = v i := by
  have hp := hS.text.put i o (op_list ho)
  rw [hd] at hp
  simp only [putT] at hp
  obtain ⟨h1, h2⟩ := beq_cond hp
  simp only [Tr.force_eq, Option.some.injEq] at h2
  rw [← h2] at h
  rcases Tr.get_set h with ⟨_, h⟩ | ⟨h, _⟩
  · exact h
  · exact absurd rfl h
theorem Setup.same (hS : Setup E call ops infos size T H v wt) {t : Tmp} (ht : t < size) {a b : Nat} (hab : a ≤ b) (hb : b ≤ ops.size) (h : ∀ j o, a ≤ j → j < b → ops[j]? = some o → o.dst ≠ some t) : (T b).get t = (T a).get t := by
  induction b with
  | zero => have : a = 0 := by omega
            rw [this]
  | succ b ih =>
    by_cases hab' : a = b + 1
    · rw [hab']
    · obtain ⟨o, ho⟩ := op_at (ops := ops) (i := b) (by omega)
      rw [hS.put_other ho (h b o (by omega) (by omega) ho) ht]
      exact ih (by omega) (by omega) fun j o h1 h2 => h j o h1 (by omega)
theorem Setup.still (hS : Setup E call ops infos size T H v wt) {i : Nat} {o : Oper} (ho : ops[i]? = some o) (h : wt i = false ∨ kindOf o.op = .pure ∨ kindOf o.op = .load) : H (i + 1) = H i := by
  cases hw : wt i with
  | false => exact (hS.text.skip i o (op_list ho) hw).2
  | true =>
    rw [hw] at h
    obtain ⟨inf, hi⟩ := hS.stat.info i o ho
    obtain ⟨_, H', h1, h2⟩ := hS.text.done i o inf (op_list ho) hi hw
    rw [h2]
    rcases h with h | h | h
    · cases h
    · rw [(exOp_pure h h1).1]
    · rw [(exOp_load h h1).1]
theorem Setup.alloc (hS : Setup E call ops infos size T H v wt) {i : Nat} {o : Oper} (ho : ops[i]? = some o) (hk : kindOf o.op = .alloc) (hw : wt i = true) :
    ∃ ob, plainObj ob ∧ (H (i + 1)).next = (H i).next + 1 ∧ (H (i + 1)).grps = (H i).grps ∧ (∀ r x, (H (i + 1)).objs.get r = some x → (r = (H i).next ∧ x = ob) ∨ (r ≠ (H i).next ∧ (H i).objs.get r = some x)) ∧
      ∀ Hx : Heap, Hx.next = (H i).next → exOp E call (T i) o Hx = some (v i, Hx.add ob) := by
  obtain ⟨inf, hi⟩ := hS.stat.info i o ho
  obtain ⟨_, H', h1, h2⟩ := hS.text.done i o inf (op_list ho) hi hw
  obtain ⟨ob, h3, h4, h5⟩ := exOp_alloc hk h1
  refine ⟨ob, h3, ?_, ?_, fun r x hx => ?_, fun Hx hx => h5 Hx hx⟩
  · rw [h2, h4]; simp [add_next]
  · rw [h2, h4]; simp [add_grps]
  · rw [h2, h4] at hx
    exact get_add (H := { objs := (H i).objs, grps := (H i).grps, next := (H i).next, lo := bif inf.grow then (H i).next else (H i).lo }) hx
def isAl (ops : Array Oper) (j : Nat) : Prop := ∃ o, ops[j]? = some o ∧ kindOf o.op = .alloc
def KOf (ops : Array Oper) (H : Nat → Heap) (S : Nat → Prop) (c : Nat) (u r : Nat) (o : AObj) : Prop :=
  (u = (H c).next ∧ r < (H c).next ∧ (H c).objs.get r = some o) ∨
  ∃ j, c ≤ j ∧ j < ops.size ∧ S j ∧ isAl ops j ∧ (H j).next ≤ r ∧ r < (H (j + 1)).next ∧ u = (H (j + 1)).next ∧ (H (j + 1)).objs.get r = some o ∧ plainObj o
def CellsOk (E : Env) (ty : TypeId) (v : Value) (m : Match) (p : Spot) (q : Nat) (w : World) : Prop :=
  ∃ (i : TI) (cs cs' : List Value) (C : Array Value) (e : TypeId) (fr : Nat × Nat), E.ty.get ty = some i ∧ w.heap[p.blk]? = some (.cells C e fr) ∧ cs.length = (bif i.agg then i.size else 1) ∧ LRel m cs cs' ∧ (∀ j, j < cs.length → C[p.base + q + j]? = cs'[j]?) ∧
    (i.agg = true → v = .agg cs.toArray) ∧ (i.agg = false → cs[0]? = some v)
def LoadOk (E : Env) (call : Caller) (lo0 : Nat) (T : Tr Value) (n : Nat) (v : Value) (o : Oper) (M : Match) (w : World) : Prop :=
  (∀ Hx, exOp E call T o Hx = some (v, Hx)) ∨ (∃ x u r, loadsFrom o.op = some x ∧ ev T x = some u ∧ rowOfV u = some r ∧ (r < n → ∀ p, M r = some p →
    ∃ ob, ObjRel (decide (lo0 ≤ r)) (below M n) p w ob ∧ (∀ c g z t, ob = .row c (some (g, z)) t → g < n) ∧ ∀ Hx : Heap, Hx.objs.get r = some ob → exOp E call T o Hx = some (v, Hx))) ∨
  ∃ ty x r q, o.op = .load ty x ∧ ev T x = some (ptr r q) ∧ (r < n → ∀ p, M r = some p → CellsOk E ty v (below M n) p q w)
structure Inv (E : Env) (call : Caller) (ops : Array Oper) (infos : List Info) (size : Nat) (T : Nat → Tr Value) (H : Nat → Heap) (v : Nat → Value) (wt : Nat → Bool) (B lo0 : Nat) (m : Match) (w₀ : World) (a₀ : Act)
    (S : Nat → Prop) (c : Nat) (M : Match) (a : Act) (w : World) : Prop where
  lt : ∀ j, S j → j < ops.size
  closed : ∀ i j, S i → Dep ops i j → S j
  cN : c ≤ ops.size
  eff : ∀ (e : Nat) (o : Oper), ops[e]? = some o → isEff o → (S e ↔ e < c)
  alc : ∀ (j : Nat) (o : Oper), ops[j]? = some o → kindOf o.op = .alloc → j < c → S j
  out : Outer m (H 0) w₀ (fun i => (H i).next) S M w
  rk : RelK B lo0 M (KOf ops H S c) (fun g l => (H c).grps.get g = some l) w
  priv : ∀ j r p, c ≤ j → S j → isAl ops j → (H j).next ≤ r → r < (H (j + 1)).next → M r = some p → ∀ r' p', r' ≠ r → M r' = some p' → p'.blk ≠ p.blk
  loads : ∀ (l : Nat) (o : Oper), ops[l]? = some o → kindOf o.op = .load → l < c → ¬ S l → wt l = true → LoadOk E call lo0 (T l) (H l).next (v l) o M w
  tsize : a.tmps.size = size
  tmps : ∀ (t k : Nat), k ≤ ops.size → (∀ (j : Nat) (o : Oper), ops[j]? = some o → o.dst = some t → (S j ↔ j < k)) → ∀ u, (T k).get t = some u → ∃ u', a.tmps[t]? = some u' ∧ VRel (below M (H k).next) u u'
  keep : ∀ t, (∀ (j : Nat) (o : Oper), ops[j]? = some o → o.dst ≠ some t) → a.tmps[t]? = a₀.tmps[t]?
  defers : a.defers = a₀.defers
variable {m : Match} {w₀ : World} {a₀ : Act} {S : Nat → Prop} {c : Nat} {M : Match} {a : Act} {w : World}
theorem Inv.row_not (hS : Setup E call ops infos size T H v wt) (I : Inv E call ops infos size T H v wt B lo0 m w₀ a₀ S c M a w) {i : Nat} (hi : ¬ S i) (hlt : i < ops.size) {r : Nat} {p : Spot} (hr : M r = some p) : ¬ ((H i).next ≤ r ∧ r < (H (i + 1)).next) := by
  rintro ⟨h1, h2⟩
  rcases I.out.dom r p hr with ⟨_, h⟩ | ⟨_, j, h3, h4, h5⟩
  · have := hS.mono (Nat.zero_le i) (Nat.le_of_lt hlt)
    omega
  · have hj := I.lt j h3
    by_cases hji : j = i
    · subst hji; exact hi h3
    · by_cases hlt' : j < i
      · have := hS.mono (i := j + 1) (j := i) hlt' (Nat.le_of_lt hlt); omega
      · have := hS.mono (i := i + 1) (j := j) (by omega) (Nat.le_of_lt hj); omega
theorem Inv.trace (hS : Setup E call ops infos size T H v wt) (I : Inv E call ops infos size T H v wt B lo0 m w₀ a₀ S c M a w) (d : Nat) : c + d ≤ ops.size →
    (∀ (e : Nat) (o : Oper), c ≤ e → e < c + d → ops[e]? = some o → isEff o → wt e = true → ∃ inf, infos[e]? = some inf ∧ inf.grow = true) →
    ∀ r p o, M r = some p → r < (H (c + d)).next → (H (c + d)).objs.get r = some o → ∃ u, u ≤ (H (c + d)).next ∧ KOf ops H S c u r o := by
  induction d with
  | zero => intro _ _ r p o _ hr ho; exact ⟨_, Nat.le_refl _, .inl ⟨rfl, hr, ho⟩⟩
  | succ d ih =>
    intro hN he r p o hm hr ho
    have ih := ih (by omega) (fun e o h1 h2 => he e o h1 (by omega))
    obtain ⟨op, hop⟩ := op_at (ops := ops) (i := c + d) (by omega)
    rw [show c + (d + 1) = c + d + 1 by omega] at hr ho ⊢
    have hmono : (H (c + d)).next ≤ (H (c + d + 1)).next := (hS.low2 hop).nxt
    have hstill : H (c + d + 1) = H (c + d) → ∃ u, u ≤ (H (c + d + 1)).next ∧ KOf ops H S c u r o := fun h => by
      rw [h] at hr ho ⊢
      exact ih r p o hm hr ho
    cases hw : wt (c + d) with
    | false => exact hstill (hS.still hop (.inl hw))
    | true =>
      cases hk : kindOf op.op with
      | pure => exact hstill (hS.still hop (.inr (.inl hk)))
      | load => exact hstill (hS.still hop (.inr (.inr hk)))
      | alloc =>
        obtain ⟨ob, h1, h2, _, h4, _⟩ := hS.alloc hop hk hw
        rcases h4 r o ho with ⟨h5, h6⟩ | ⟨h5, h6⟩
        · have hSd : S (c + d) := by
            apply Classical.byContradiction
            intro hn
            exact I.row_not hS hn (op_lt hop) hm ⟨by omega, by omega⟩
          exact ⟨_, Nat.le_refl _, .inr ⟨c + d, by omega, op_lt hop, hSd, ⟨op, hop, hk⟩, by omega, hr, rfl, ho, by rw [h6]; exact h1⟩⟩
        · obtain ⟨u, h7, h8⟩ := ih r p o hm (by omega) h6
          exact ⟨u, by omega, h8⟩
      | _ =>
        have hEff : isEff op := by
          first
          | exact .inl hk
          | exact .inr hk
        obtain ⟨inf, h1, h2⟩ := he (c + d) op (by omega) (by omega) hop hEff hw
        have hn : ¬ S (c + d) := fun h => by have := (I.eff _ _ hop hEff).1 h; omega
        have hlt : r < (H (c + d)).next := by
          have := I.row_not hS hn (op_lt hop) hm
          omega
        obtain ⟨_, H', h3, h4⟩ := hS.text.done (c + d) op inf (op_list hop) h1 hw
        have hl := low_exOp hS.low (by rw [h2]; simp) h3
        have := hl.low r o (by rw [h2]; exact hlt) (by rw [h4] at ho; exact ho)
        obtain ⟨u, h7, h8⟩ := ih r p o hm hlt this
        exact ⟨u, by omega, h8⟩
theorem Inv.grps (hS : Setup E call ops infos size T H v wt) (_I : Inv E call ops infos size T H v wt B lo0 m w₀ a₀ S c M a w) (d : Nat) : c + d ≤ ops.size →
    (∀ (e : Nat) (o : Oper), c ≤ e → e < c + d → ops[e]? = some o → isEff o → wt e = false) → (H (c + d)).grps = (H c).grps := by
  induction d with
  | zero => intro _ _; rfl
  | succ d ih =>
    intro hN he
    have ih := ih (by omega) (fun e o h1 h2 => he e o h1 (by omega))
    obtain ⟨op, hop⟩ := op_at (ops := ops) (i := c + d) (by omega)
    rw [show c + (d + 1) = c + d + 1 by omega, ← ih]
    cases hw : wt (c + d) with
    | false => rw [hS.still hop (.inl hw)]
    | true =>
      cases hk : kindOf op.op with
      | pure => rw [hS.still hop (.inr (.inl hk))]
      | load => rw [hS.still hop (.inr (.inr hk))]
      | alloc => obtain ⟨_, _, _, h3, _⟩ := hS.alloc hop hk hw; exact h3
      | store => have := he (c + d) op (by omega) (by omega) hop (.inl hk); rw [hw] at this; cases this
      | call => have := he (c + d) op (by omega) (by omega) hop (.inr hk); rw [hw] at this; cases this
theorem Inv.looks (hS : Setup E call ops infos size T H v wt) (I : Inv E call ops infos size T H v wt B lo0 m w₀ a₀ S c M a w) {i : Nat} {o : Oper} (ho : ops[i]? = some o) (hi : ¬ S i) (hd : ∀ j, Dep ops i j → S j) :
    ∃ T2, TRel (below M (H i).next) T2 a.tmps ∧ (∀ x ∈ o.op.operands.toList, ev T2 x = ev (T i) x) ∧ wantedA T2 ops.toList o = wantedA (T i) ops.toList o := by
  have hlt := op_lt ho
  -- what nobody else's order is said of
  have hfine : ∀ t, (t ∈ looksOf ops.toList o ∨ ∀ (j : Nat) (p : Oper), ops[j]? = some p → p.dst ≠ some t) → ∀ u, (T i).get t = some u → ∃ u', a.tmps[t]? = some u' ∧ VRel (below M (H i).next) u u' := fun t ht u hu => by
    refine I.tmps t i (Nat.le_of_lt hlt) (fun j p hp hpd => ?_) u hu
    rcases ht with ht | ht
    · rcases hS.stat.tmps i o j p t ho hp hpd (.inr ht) with rfl | h | h
      · exact ⟨fun h => absurd h hi, fun h => by omega⟩
      · exact ⟨fun _ => h.lt hS.stat.edge, fun _ => hd j h⟩
      · have := h.lt hS.stat.edge
        exact ⟨fun h' => absurd (I.closed j i h' h) hi, fun h => by omega⟩
    · exact absurd hpd (ht j p hp)
  let D := (ops.toList.filterMap (·.dst)).filter fun t => !(looksOf ops.toList o).contains t
  have hT2 : ∀ t u, (dropAll D (T i)).get t = some u → (T i).get t = some u ∧ (t ∈ looksOf ops.toList o ∨ ∀ (j : Nat) (p : Oper), ops[j]? = some p → p.dst ≠ some t) := fun t u h => by
    obtain ⟨h1, h2⟩ := dropped_get h
    refine ⟨h2, ?_⟩
    by_cases hl : t ∈ looksOf ops.toList o
    · exact .inl hl
    · refine .inr fun j p hp hpd => h1 ?_
      simp only [D, List.mem_filter, List.mem_filterMap, Bool.not_eq_true', List.contains_eq_mem, decide_eq_false_iff_not]
      exact ⟨⟨p, List.mem_of_getElem? (op_list hp), hpd⟩, hl⟩
  have hsame : ∀ t, t ∈ looksOf ops.toList o → (dropAll D (T i)).get t = (T i).get t := fun t ht => by
    cases hg : (T i).get t with
    | none =>
      cases hg2 : (dropAll D (T i)).get t with
      | none => rfl
      | some u => rw [(hT2 t u hg2).1] at hg; cases hg
    | some u =>
      have := hS.tlt i (Nat.le_of_lt hlt) t u hg
      rw [dropped_keep (Maps.lim_low hS.size (Nat.le_of_lt this)), hg]
      intro h
      simp [D, ht] at h
  refine ⟨dropAll D (T i), fun t u h => ?_, fun x hx => ?_, ?_⟩
  · obtain ⟨h1, h2⟩ := hT2 t u h
    exact hfine t h2 u h1
  · cases x with
    | tmp t =>
      refine hsame t ?_
      have : t ∈ tmpsOf o.op.operands.toList := mem_tmpsOf hx
      unfold looksOf
      split
      · exact List.mem_cons_of_mem _ this
      · exact this
    | _ => rfl
  · unfold wantedA
    cases hg : o.guard with
    | none => rfl
    | some jw =>
      obtain ⟨j, b⟩ := jw
      simp only
      cases hd' : (ops.toList[j]?).bind (·.dst) with
      | none => rfl
      | some d =>
        have : d ∈ looksOf ops.toList o := by
          unfold looksOf guardTmp
          simp only [hg, hd']
          exact List.mem_cons_self ..
        simp only [hsame d this]
theorem Inv.tmps_step (hS : Setup E call ops infos size T H v wt) (I : Inv E call ops infos size T H v wt B lo0 m w₀ a₀ S c M a w) {i : Nat} {o : Oper} (ho : ops[i]? = some o) (hi : ¬ S i) (hd : ∀ j, Dep ops i j → S j) {M' : Match} (hle : M.le M') {v' : Value}
    (hv : VRel (below M' (H (i + 1)).next) (v i) v') (t k : Nat) (hk : k ≤ ops.size) (hw : ∀ (j : Nat) (p : Oper), ops[j]? = some p → p.dst = some t → ((S j ∨ j = i) ↔ j < k)) (u : Value) (hu : (T k).get t = some u) :
    ∃ u', (a.put o.dst v').tmps[t]? = some u' ∧ VRel (below M' (H k).next) u u' := by
  have ht : t < size := hS.tlt k hk t u hu
  by_cases hdt : o.dst = some t
  · have hik : i < k := (hw i o ho hdt).1 (.inr rfl)
    have hno : ∀ j p, i + 1 ≤ j → j < k → ops[j]? = some p → p.dst ≠ some t := fun j p h1 h2 hp hpd => by
      have hj : S j := ((hw j p hp hpd).2 h2).resolve_right (by omega)
      rcases hS.stat.tmps i o j p t ho hp hpd (.inl hdt) with h | h | h
      · omega
      · have := h.lt hS.stat.edge; omega
      · exact hi (I.closed j i hj h)
    rw [hS.same ht (show i + 1 ≤ k by omega) hk hno] at hu
    have := hS.put_self ho hdt hu
    subst this
    refine ⟨v', ?_, hv.mono (below_mono M' (hS.mono (by omega) hk))⟩
    rw [hdt, put_tmps, Array.getElem?_setIfInBounds_self_of_lt (by rw [I.tsize]; exact ht)]
  · obtain ⟨u', h1, h2⟩ := I.tmps t k hk (fun j p hp hpd => by
      have := hw j p hp hpd
      have hji : j ≠ i := fun h => by subst h; rw [ho] at hp; cases hp; exact hdt hpd
      exact ⟨fun h => this.1 (.inl h), fun h => (this.2 h).resolve_right hji⟩) u hu
    refine ⟨u', ?_, h2.mono (below_of_le hle _)⟩
    cases hdo : o.dst with
    | none => exact h1
    | some d => rw [put_tmps, Array.getElem?_setIfInBounds_ne (fun h => hdt (by rw [hdo, h]))]; exact h1
theorem Inv.effs (hS : Setup E call ops infos size T H v wt) (I : Inv E call ops infos size T H v wt B lo0 m w₀ a₀ S c M a w) {i : Nat} {o : Oper} (ho : ops[i]? = some o) (hi : ¬ S i) (hd : ∀ j, Dep ops i j → S j) (he : isEff o) :
    c ≤ i ∧ (∀ (e : Nat) (p : Oper), ops[e]? = some p → isEff p → e < i → S e) ∧ (∀ (e : Nat) (p : Oper), ops[e]? = some p → isEff p → i < e → ¬ S e) ∧ (∀ (e : Nat) (p : Oper), c ≤ e → e < i → ops[e]? = some p → ¬ isEff p) := by
  have h1 : ∀ (e : Nat) (p : Oper), ops[e]? = some p → isEff p → e < i → S e := fun e p hp hpe hlt => by
    rcases hS.stat.eff i o e p ho hp he hpe with h | h | h
    · omega
    · exact hd e h
    · have := h.lt hS.stat.edge; omega
  refine ⟨?_, h1, fun e p hp hpe hlt h => ?_, fun e p h2 h3 hp hpe => ?_⟩
  · apply Nat.le_of_not_lt
    intro h
    exact hi ((I.eff i o ho he).2 h)
  · rcases hS.stat.eff i o e p ho hp he hpe with h' | h' | h'
    · omega
    · have := h'.lt hS.stat.edge; omega
    · exact hi (I.closed e i h h')
  · have := (I.eff e p hp hpe).1 (h1 e p hp hpe h3)
    omega
def upto (c i : Nat) (o : Oper) : Nat :=
  match kindOf o.op with
  | .store => i + 1
  | .call => i + 1
  | _ => c
end
section
variable {B lo0 : Nat} {m : Match} {w : World} {P : Program} {ops : Array Oper} {size : Nat}
theorem upto_eff {c i : Nat} {o : Oper} (h : isEff o) : upto c i o = i + 1 := by rcases h with h | h <;> simp [upto, h]
theorem upto_not {c i : Nat} {o : Oper} (h : ¬ isEff o) : upto c i o = c := by
  unfold upto
  split
  · rename_i h'; exact absurd (.inl h') h
  · rename_i h'; exact absurd (.inr h') h
  · rfl
end
section
variable [Maps] {B lo0 : Nat} {E : Env}
variable {call : Caller} {ops : Array Oper} {infos : List Info} {size : Nat} {T : Nat → Tr Value} {H : Nat → Heap} {v : Nat → Value} {wt : Nat → Bool}
variable {m : Match} {w₀ : World} {a₀ : Act} {S : Nat → Prop} {c : Nat} {M : Match} {a : Act} {w : World}
theorem Inv.plain (hS : Setup E call ops infos size T H v wt) (I : Inv E call ops infos size T H v wt B lo0 m w₀ a₀ S c M a w) {i : Nat} {o : Oper} (ho : ops[i]? = some o) (hi : ¬ S i) (hd : ∀ j, Dep ops i j → S j) :
    (∀ j, S j ∨ j = i → j < ops.size) ∧ (∀ k j, S k ∨ k = i → Dep ops k j → S j ∨ j = i) ∧ upto c i o ≤ ops.size ∧ (∀ (e : Nat) (p : Oper), ops[e]? = some p → isEff p → ((S e ∨ e = i) ↔ e < upto c i o)) ∧
    (∀ (j : Nat) (p : Oper), ops[j]? = some p → kindOf p.op = .alloc → j < upto c i o → S j ∨ j = i) := by
  have hlt := op_lt ho
  refine ⟨fun j h => h.elim (I.lt j) (fun h => h ▸ hlt), fun k j h hkj => h.elim (fun h => .inl (I.closed k j h hkj)) (fun h => .inl (hd j (h ▸ hkj))), ?_, fun e p hp hpe => ?_, fun j p hp hk hj => ?_⟩
  · by_cases he : isEff o
    · rw [upto_eff he]; omega
    · rw [upto_not he]; exact I.cN
  · by_cases he : isEff o
    · rw [upto_eff he]
      obtain ⟨_, h1, h2, _⟩ := I.effs hS ho hi hd he
      constructor
      · rintro (h | h)
        · apply Nat.lt_succ_of_le
          apply Nat.le_of_not_lt
          intro h'
          exact h2 e p hp hpe h' h
        · omega
      · intro h
        by_cases hei : e = i
        · exact .inr hei
        · exact .inl (h1 e p hp hpe (by omega))
    · rw [upto_not he]
      have hei : e ≠ i := fun h => by subst h; rw [ho] at hp; cases hp; exact he hpe
      rw [← I.eff e p hp hpe]
      exact ⟨fun h => h.resolve_right hei, .inl⟩
  · by_cases he : isEff o
    · rw [upto_eff he] at hj
      have hji : j ≠ i := fun h => by subst h; rw [ho] at hp; cases hp; rcases he with he | he <;> rw [hk] at he <;> cases he
      exact .inl (hd j (hS.stat.alc i o j p ho hp he hk (by omega)))
    · rw [upto_not he] at hj
      exact .inl (I.alc j p hp hk hj)
theorem Inv.load_now (hS : Setup E call ops infos size T H v wt) (I : Inv E call ops infos size T H v wt B lo0 m w₀ a₀ S c M a w) {l : Nat} {o : Oper} (ho : ops[l]? = some o) (hk : kindOf o.op = .load) (hl : ¬ S l) (hw : wt l = true)
    (hg : ∀ (e : Nat) (p : Oper), c ≤ e → e < l → ops[e]? = some p → isEff p → wt e = true → ∃ inf, infos[e]? = some inf ∧ inf.grow = true) : LoadOk E call lo0 (T l) (H l).next (v l) o M w := by
  by_cases hlc : l < c
  · exact I.loads l o ho hk hlc hl hw
  · obtain ⟨inf, hi⟩ := hS.stat.info l o ho
    obtain ⟨_, H', h1, h2⟩ := hS.text.done l o inf (op_list ho) hi hw
    rcases (exOp_load hk h1).2 with h | ⟨x, u, r, ob, h3, h4, h5, h6, h7⟩
    · exact .inl h
    · refine .inr (.inl ⟨x, u, r, h3, h4, h5, fun hr p hp => ?_⟩)
      have := I.trace hS (l - c) (by have := op_lt ho; omega) (fun e p h1 h2 => hg e p h1 (by omega)) r p ob hp (by rw [show c + (l - c) = l by omega]; exact hr) (by rw [show c + (l - c) = l by omega]; exact h6)
      rw [show c + (l - c) = l by omega] at this
      obtain ⟨u', h8, h9⟩ := this
      refine ⟨ob, (I.rk.obj u' r p ob hp h9).mono (below_mono M h8) rfl, fun cs g z t hob => ?_, h7⟩
      subst hob
      have := I.rk.grp u' r p cs g z t hp h9
      omega
theorem Inv.skip (hS : Setup E call ops infos size T H v wt) (I : Inv E call ops infos size T H v wt B lo0 m w₀ a₀ S c M a w) {i : Nat} {o : Oper} (ho : ops[i]? = some o) (hi : ¬ S i) (hd : ∀ j, Dep ops i j → S j) (hw : wt i = false) :
    Inv E call ops infos size T H v wt B lo0 m w₀ a₀ (fun j => S j ∨ j = i) (upto c i o) M (a.put o.dst undef) w := by
  obtain ⟨p1, p2, p3, p4, p5⟩ := I.plain hS ho hi hd
  have hst := hS.still ho (.inl hw)
  have hlt := op_lt ho
  have hv := (hS.text.skip i o (op_list ho) hw).1
  have hc : c ≤ upto c i o := by
    by_cases he : isEff o
    · rw [upto_eff he]; have := (I.effs hS ho hi hd he).1; omega
    · rw [upto_not he]; exact Nat.le_refl _
  -- the objects known
  have hK : ∀ u r p x, M r = some p → KOf ops H (fun j => S j ∨ j = i) (upto c i o) u r x → ∃ u', u' ≤ u ∧ KOf ops H S c u' r x := by
    rintro u r p x hm (⟨rfl, h1, h2⟩ | ⟨j, h1, h2, h3, h4, h5, h6, rfl, h7, h8⟩)
    · by_cases he : isEff o
      · rw [upto_eff he] at h1 h2 ⊢
        obtain ⟨e1, _, _, e4⟩ := I.effs hS ho hi hd he
        rw [hst] at h1 h2 ⊢
        have := I.trace hS (i - c) (by omega) (fun e p h1 h2 hp hpe => absurd hpe (e4 e p h1 (by omega) hp)) r p x hm (by rw [show c + (i - c) = i by omega]; exact h1) (by rw [show c + (i - c) = i by omega]; exact h2)
        rwa [show c + (i - c) = i by omega] at this
      · rw [upto_not he] at h1 h2 ⊢
        exact ⟨_, Nat.le_refl _, .inl ⟨rfl, h1, h2⟩⟩
    · have hji : j ≠ i := fun h => by subst h; rw [hst] at h6; omega
      exact ⟨_, Nat.le_refl _, .inr ⟨j, by omega, h2, h3.resolve_right hji, h4, h5, h6, rfl, h7, h8⟩⟩
  have hG : ∀ g l, (H (upto c i o)).grps.get g = some l → (H c).grps.get g = some l := fun g l hl => by
    by_cases he : isEff o
    · rw [upto_eff he, hst] at hl
      obtain ⟨e1, _, _, e4⟩ := I.effs hS ho hi hd he
      have := I.grps hS (i - c) (by omega) (fun e p h1 h2 hp hpe => absurd hpe (e4 e p h1 (by omega) hp))
      rw [show c + (i - c) = i by omega] at this
      rwa [this] at hl
    · rwa [upto_not he] at hl
  refine ⟨p1, p2, p3, p4, p5, I.out.skip i, I.rk.anti hK hG, fun j r p h1 h2 h3 h4 h5 => ?_, fun l ol hol hk h1 h2 h3 => ?_, ?_, fun t k hk hwr u hu => ?_, fun t ht => ?_, ?_⟩
  · have hji : j ≠ i := fun h => by subst h; rw [hst] at h5; omega
    exact I.priv j r p (by omega) (h2.resolve_right hji) h3 h4 h5
  · have hl : ¬ S l := fun h => h2 (.inl h)
    refine I.load_now hS hol hk hl h3 fun e p e1 e2 hp hpe => ?_
    by_cases he : isEff o
    · rw [upto_eff he] at h1
      obtain ⟨_, _, _, e4⟩ := I.effs hS ho hi hd he
      exact absurd hpe (e4 e p e1 (by omega) hp)
    · rw [upto_not he] at h1; omega
  · cases o.dst <;> simp [Act.put, I.tsize]
  · exact I.tmps_step hS ho hi hd M.le_refl (by rw [hv]; exact undef_rel _) t k hk hwr u hu
  · have : o.dst ≠ some t := ht i o ho
    cases hdo : o.dst with
    | none => exact I.keep t ht
    | some d => rw [put_tmps, Array.getElem?_setIfInBounds_ne (fun h => this (by rw [hdo, h]))]; exact I.keep t ht
  · cases o.dst <;> exact I.defers
theorem LoadOk.mono {T : Tr Value} {n : Nat} {u : Value} {o : Oper} {M' : Match} {w' : World} (h : LoadOk E call lo0 T n u o M w) (hle : M.le M') (hM : ∀ r p, r < n → M' r = some p → M r = some p)
    (hb : ∀ r p, r < n → M r = some p → w'.heap[p.blk]? = w.heap[p.blk]?) : LoadOk E call lo0 T n u o M' w' := by
  rcases h with h | ⟨x, y, r, h1, h2, h3, h4⟩ | ⟨ty, x, r, q, h1, h2, h3⟩
  · exact .inl h
  · refine .inr (.inl ⟨x, y, r, h1, h2, h3, fun hr p hp => ?_⟩)
    have hp' := hM r p hr hp
    obtain ⟨ob, h5, h6⟩ := h4 hr p hp'
    exact ⟨ob, h5.mono (below_of_le hle n) (hb r p hr hp'), h6⟩
  · refine .inr (.inr ⟨ty, x, r, q, h1, h2, fun hr p hp => ?_⟩)
    have hp' := hM r p hr hp
    obtain ⟨i, cs, cs', C, e, fr, h4, h5, h6, h7, h8⟩ := h3 hr p hp'
    exact ⟨i, cs, cs', C, e, fr, h4, (hb r p hr hp').trans h5, h6, h7.mono (below_of_le hle n), h8⟩
theorem Inv.below0 (hS : Setup E call ops infos size T H v wt) (I : Inv E call ops infos size T H v wt B lo0 m w₀ a₀ S c M a w) {i : Nat} (hi : i ≤ ops.size) : ∀ r p, m r = some p → r < (H i).next := fun r p hr => by
  rcases I.out.dom r p (I.out.le r p hr) with ⟨_, h⟩ | ⟨h, _⟩
  · exact Nat.lt_of_lt_of_le h (hS.mono (Nat.zero_le i) hi)
  · rw [hr] at h; cases h
theorem Inv.join_le (hS : Setup E call ops infos size T H v wt) (I : Inv E call ops infos size T H v wt B lo0 m w₀ a₀ S c M a w) {i : Nat} (hi : ¬ S i) (hlt : i < ops.size) (m' : Match) : M.le (join M m' (H i).next (H (i + 1)).next) := fun r p hr => by
  have := I.row_not hS hi hlt hr
  unfold join
  rw [if_neg this]; exact hr
theorem keep_step (I : Inv E call ops infos size T H v wt B lo0 m w₀ a₀ S c M a w) {i : Nat} {o : Oper} (ho : ops[i]? = some o) (v' : Value) (t : Tmp) (ht : ∀ (j : Nat) (o : Oper), ops[j]? = some o → o.dst ≠ some t) : (a.put o.dst v').tmps[t]? = a₀.tmps[t]? := by
  have : o.dst ≠ some t := ht i o ho
  cases hdo : o.dst with
  | none => exact I.keep t ht
  | some d => rw [put_tmps, Array.getElem?_setIfInBounds_ne (fun h => this (by rw [hdo, h]))]; exact I.keep t ht
theorem Inv.quiet (hS : Setup E call ops infos size T H v wt) (I : Inv E call ops infos size T H v wt B lo0 m w₀ a₀ S c M a w) {i : Nat} {o : Oper} (ho : ops[i]? = some o) (hi : ¬ S i) (hd : ∀ j, Dep ops i j → S j) (hne : ¬ isEff o)
    {Hx Hx' : Heap} (hlo : (H i).next ≤ Hx.lo) (hl0 : lo0 ≤ (H 0).lo) {m' : Match} {w' : World} {v' : Value} (hg : Good B lo0 (below M (H i).next) Hx w m' Hx' w') (hv : VRel m' (v i) v')
    (hdm : ∀ r p, m' r = some p → below M (H i).next r = some p ∨ ((H i).next ≤ r ∧ r < (H (i + 1)).next)) (hone : (H (i + 1)).next ≤ (H i).next + 1) (hal : kindOf o.op = .alloc ∨ (H (i + 1)).next = (H i).next)
    (hob : ∀ r p x, m' r = some p → (H i).next ≤ r → r < (H (i + 1)).next → (H (i + 1)).objs.get r = some x → plainObj x ∧ ObjRel (decide (lo0 ≤ r)) m' p w' x) :
    Inv E call ops infos size T H v wt B lo0 m w₀ a₀ (fun j => S j ∨ j = i) (upto c i o) (join M m' (H i).next (H (i + 1)).next) (a.put o.dst v') w' := by
  obtain ⟨p1, p2, p3, p4, p5⟩ := I.plain hS ho hi hd
  have hlt := op_lt ho
  have hmono : (H i).next ≤ (H (i + 1)).next := (hS.low2 ho).nxt
  have hjle := I.join_le hS hi hlt m'
  have hrow := fun r p => I.row_not (r := r) (p := p) hS hi hlt
  have hblk : ∀ b, b < w.heap.size → w'.heap[b]? = w.heap[b]? := fun b hb => hg.frame b hb fun r p hr hl => by
    have := (below_iff.1 hr).1
    omega
  have hnewblk : ∀ r p, m' r = some p → (H i).next ≤ r → w.heap.size ≤ p.blk := fun r p hr hin => by
    rcases hg.blk r p hr (by unfold below; rw [if_neg (by omega)]) with h | ⟨r₀, p₀, h1, h2, _⟩
    · exact h
    · have := (below_iff.1 h1).1; omega
  have hcase : ∀ r p, join M m' (H i).next (H (i + 1)).next r = some p → M r = some p ∨ (M r = none ∧ (H i).next ≤ r ∧ r < (H (i + 1)).next ∧ m' r = some p) := fun r p hr => by
    unfold join at hr
    split at hr
    · rename_i hin
      refine .inr ⟨?_, hin.1, hin.2, hr⟩
      cases hm : M r with
      | none => rfl
      | some q => exact absurd hin (hrow r q hm)
    · exact .inl hr
  have hmle : m'.le (below (join M m' (H i).next (H (i + 1)).next) (H (i + 1)).next) := fun r p hr => by
    rcases hdm r p hr with h | h
    · obtain ⟨h1, h2⟩ := below_iff.1 h
      exact below_iff.2 ⟨by omega, hjle r p h2⟩
    · refine below_iff.2 ⟨h.2, ?_⟩
      unfold join
      rw [if_pos h]; exact hr
  -- where there is a row, i has not been passed
  have hci : (H i).next < (H (i + 1)).next → c ≤ i := fun h => by
    apply Nat.le_of_not_lt
    intro hic
    rcases hal with h1 | h1
    · exact hi (I.alc i o ho h1 hic)
    · omega
  rw [upto_not hne] at p3 p4 p5 ⊢
  refine ⟨p1, p2, p3, p4, p5, I.out.step (I.below0 hS (Nat.le_of_lt hlt)) hg ?_, ?_, ?_, fun l ol hol hk h1 h2 h3 => ?_, ?_, fun t k hk hwr u hu => ?_, keep_step I ho v', ?_⟩
  · have := hS.mono (Nat.zero_le i) (Nat.le_of_lt hlt)
    have := hS.lo
    omega
  · refine I.rk.extend hjle hg.size hblk (fun r p hr hm => ?_) (fun r r' p p' hr hm hr' hm' => ?_) (fun u r p x hr hx => ?_)
    · rcases hcase r p hr with h | ⟨_, h1, h2, h3⟩
      · rw [hm] at h; cases h
      · have := hS.lo
        have := hS.mono (Nat.zero_le i) (Nat.le_of_lt hlt)
        exact ⟨by omega, hnewblk r p h3 h1, (hg.rel.dom r p h3).2.1⟩
    · rcases hcase r p hr with h | ⟨_, h1, h2, h3⟩
      · rw [hm] at h; cases h
      · rcases hcase r' p' hr' with h | ⟨_, h1', h2', h3'⟩
        · rw [hm'] at h; cases h
        · omega
    · rcases hx with ⟨rfl, h1, h2⟩ | ⟨j, h1, h2, h3, h4, h5, h6, rfl, h7, h8⟩
      · rcases hcase r p hr with h | ⟨_, h3, h4, _⟩
        · exact .inl ⟨h, .inl ⟨rfl, h1, h2⟩⟩
        · have := hci (by omega)
          have := hS.mono this (Nat.le_of_lt hlt)
          omega
      · by_cases hji : j = i
        · subst hji
          rcases hcase r p hr with h | ⟨h9, h10, h11, h12⟩
          · exact absurd ⟨h5, h6⟩ (hrow r p h)
          · obtain ⟨h13, h14⟩ := hob r p x h12 h10 h11 h7
            exact .inr ⟨h9, h13, h14.mono hmle rfl⟩
        · have hSj := h3.resolve_right hji
          rcases hcase r p hr with h | ⟨_, h10, h11, _⟩
          · exact .inl ⟨h, .inr ⟨j, h1, h2, hSj, h4, h5, h6, rfl, h7, h8⟩⟩
          · by_cases hji' : j < i
            · have := hS.mono (i := j + 1) (j := i) hji' (Nat.le_of_lt hlt); omega
            · have := hS.mono (i := i + 1) (j := j) (by omega) (Nat.le_of_lt h2); omega
  · intro j r p h1 h2 h3 h4 h5 hr r' p' hne' hr' hb
    rcases hcase r p hr with h | ⟨_, h6, h7, h8⟩
    · have hji : j ≠ i := fun h' => by subst h'; exact hrow r p h ⟨h4, h5⟩
      rcases hcase r' p' hr' with h' | ⟨_, h6', h7', h8'⟩
      · exact I.priv j r p h1 (h2.resolve_right hji) h3 h4 h5 h r' p' hne' h' hb
      · have := (I.rk.dom r p h).1
        have := hnewblk r' p' h8' h6'
        omega
    · rcases hcase r' p' hr' with h' | ⟨_, h6', h7', h8'⟩
      · have := (I.rk.dom r' p' h').1
        have := hnewblk r p h8 h6
        omega
      · omega
  · refine (I.loads l ol hol hk h1 (fun h => h2 (.inl h)) h3).mono hjle (fun r p hr hp => ?_) (fun r p _ hp => hblk _ (I.rk.dom r p hp).1)
    rcases hcase r p hp with h | ⟨_, h4, h5, _⟩
    · exact h
    · have := hci (by omega)
      have := hS.mono (i := l) (j := i) (by omega) (Nat.le_of_lt hlt)
      omega
  · cases o.dst <;> simp [Act.put, I.tsize]
  · exact I.tmps_step hS ho hi hd hjle (hv.mono hmle) t k hk hwr u hu
  · cases o.dst <;> exact I.defers
theorem RelK.union {m₁ m' : Match} {K' K₁ : Nat → Nat → AObj → Prop} {G : Nat → List Nat → Prop} {w : World} (h : RelK B lo0 m' K₁ G w) (hle : m'.le m₁) (hdom : ∀ r p, m₁ r = some p → p.blk < w.heap.size ∧ (lo0 ≤ r → B ≤ p.blk) ∧ (r < lo0 → p.blk < B))
    (hK : ∀ u r p x, m₁ r = some p → K' u r x → (m' r = some p ∧ K₁ u r x) ∨ (plainObj x ∧ ObjRel (decide (lo0 ≤ r)) (below m₁ u) p w x ∧ ∀ r' p', r' ≠ r → m₁ r' = some p' → p'.blk ≠ p.blk)) : RelK B lo0 m₁ K' G w where
  base := h.base
  glo := h.glo
  dom := hdom
  obj u r p o hr ho := by
    rcases hK u r p o hr ho with ⟨h1, h2⟩ | ⟨_, h3, _⟩
    · exact (h.obj u r p o h1 h2).mono (below_of_le hle u) rfl
    · exact h3
  sep u u' r r' p p' o o' hne hl hr hr' ho ho' hb := by
    rcases hK u r p o hr ho with ⟨h1, h2⟩ | ⟨_, _, h3⟩
    · rcases hK u' r' p' o' hr' ho' with ⟨h1', h2'⟩ | ⟨_, _, h3⟩
      · exact h.sep u u' r r' p p' o o' hne hl h1 h1' h2 h2' hb
      · exact absurd hb (h3 r p hne hr)
    · exact absurd hb.symm (h3 r' p' (Ne.symm hne) hr')
  tip u u' r r' p p' c c' g z z' hr hr' ho ho' := by
    rcases hK u r p _ hr ho with ⟨h1, h2⟩ | ⟨h3, _⟩
    · rcases hK u' r' p' _ hr' ho' with ⟨h1', h2'⟩ | ⟨h3, _⟩
      · exact h.tip u u' r r' p p' c c' g z z' h1 h1' h2 h2'
      · exact absurd rfl (h3 _ _ _)
    · exact absurd rfl (h3 _ _ _)
  old u r p c g z hr ho l hl := by
    rcases hK u r p _ hr ho with ⟨h1, h2⟩ | ⟨h3, _⟩
    · exact h.old u r p c g z h1 h2 l hl
    · exact absurd rfl (h3 _ _ _)
  ends u u' r r' p p' c c' g z z' t hr hr' ho ho' hb := by
    rcases hK u r p _ hr ho with ⟨h1, h2⟩ | ⟨h3, _⟩
    · rcases hK u' r' p' _ hr' ho' with ⟨h1', h2'⟩ | ⟨h3, _⟩
      · exact h.ends u u' r r' p p' c c' g z z' t h1 h1' h2 h2' hb
      · exact absurd rfl (h3 _ _ _)
    · exact absurd rfl (h3 _ _ _)
  grp u r p c g z t hr ho := by
    rcases hK u r p _ hr ho with ⟨h1, h2⟩ | ⟨h3, _⟩
    · exact h.grp u r p c g z t h1 h2
    · exact absurd rfl (h3 _ _ _)
theorem Inv.effect (hS : Setup E call ops infos size T H v wt) (I : Inv E call ops infos size T H v wt B lo0 m w₀ a₀ S c M a w) {i : Nat} {o : Oper} (ho : ops[i]? = some o) (hi : ¬ S i) (hd : ∀ j, Dep ops i j → S j) (he : isEff o)
    {Hx Hx' : Heap} (hlo : (H 0).lo ≤ Hx.lo) (hin : Hx.next = (H i).next) (hx : H (i + 1) = { objs := Hx'.objs, grps := Hx'.grps, next := Hx'.next, lo := (H i).lo }) {m' : Match} {w' : World} {v' : Value} (hg : Good B lo0 (below M (H i).next) Hx w m' Hx' w')
    (hv : VRel m' (v i) v') (hkeep : ∀ (l : Nat) (ol : Oper), ops[l]? = some ol → kindOf ol.op = .load → l < i → ¬ S l → wt l = true → LoadOk E call lo0 (T l) (H l).next (v l) ol M w →
      LoadOk E call lo0 (T l) (H l).next (v l) ol (join M m' (H i).next (H (i + 1)).next) w') :
    Inv E call ops infos size T H v wt B lo0 m w₀ a₀ (fun j => S j ∨ j = i) (upto c i o) (join M m' (H i).next (H (i + 1)).next) (a.put o.dst v') w' := by
  obtain ⟨p1, p2, p3, p4, p5⟩ := I.plain hS ho hi hd
  obtain ⟨e1, e2, e3, e4⟩ := I.effs hS ho hi hd he
  have hlt := op_lt ho
  have hmono : (H i).next ≤ (H (i + 1)).next := (hS.low2 ho).nxt
  have hjle := I.join_le hS hi hlt m'
  have hrow := fun r p => I.row_not (r := r) (p := p) hS hi hlt
  have hnx : Hx'.next = (H (i + 1)).next := by rw [hx]
  have hlt' : ∀ r p, m' r = some p → r < (H (i + 1)).next := fun r p hr => by rw [← hnx]; exact (hg.rel.dom r p hr).1
  have hin' : ∀ r p, join M m' (H i).next (H (i + 1)).next r = some p → r < (H (i + 1)).next → m' r = some p := fun r p hr hlt2 => by
    unfold join at hr
    split at hr
    · exact hr
    · rename_i hn
      exact hg.le r p (below_iff.2 ⟨by omega, hr⟩)
  have hout : ∀ r p, join M m' (H i).next (H (i + 1)).next r = some p → ¬ ((H i).next ≤ r ∧ r < (H (i + 1)).next) → M r = some p := fun r p hr hn => by
    unfold join at hr
    rw [if_neg hn] at hr; exact hr
  have hmle : m'.le (join M m' (H i).next (H (i + 1)).next) := fun r p hr => by
    by_cases hn : (H i).next ≤ r
    · unfold join; rw [if_pos ⟨hn, hlt' r p hr⟩]; exact hr
    · rcases hg.new r p hr with h | ⟨_, h⟩
      · exact hjle r p (below_iff.1 h).2
      · omega
  have hmle' : m'.le (below (join M m' (H i).next (H (i + 1)).next) (H (i + 1)).next) := fun r p hr => below_iff.2 ⟨hlt' r p hr, hmle r p hr⟩
  -- rows that others ahead of it have made: nobody's but theirs
  have hpriv : ∀ j r p, i + 1 ≤ j → S j → isAl ops j → (H j).next ≤ r → r < (H (j + 1)).next → M r = some p → ∀ r' p', r' ≠ r → join M m' (H i).next (H (i + 1)).next r' = some p' → p'.blk ≠ p.blk := by
    intro j r p h1 h2 h3 h4 h5 h6 r' p' hne hr' hb
    have hji := hS.mono (i := i + 1) (j := j) h1 (Nat.le_of_lt (I.lt j h2))
    by_cases hn : (H i).next ≤ r' ∧ r' < (H (i + 1)).next
    · have hr'' := hin' r' p' hr' hn.2
      rcases hg.blk r' p' hr'' (by unfold below; rw [if_neg (by omega)]) with h | ⟨r₀, p₀, h7, h8, h9⟩
      · have := (I.rk.dom r p h6).1; omega
      · obtain ⟨h10, h11⟩ := below_iff.1 h7
        exact I.priv j r p (by omega) h2 h3 h4 h5 h6 r₀ p₀ (by omega) h11 (h9.trans hb)
    · exact I.priv j r p (by omega) h2 h3 h4 h5 h6 r' p' hne (hout r' p' hr' hn) hb
  rw [upto_eff he] at p3 p4 p5 ⊢
  refine ⟨p1, p2, p3, p4, p5, I.out.step (I.below0 hS (Nat.le_of_lt hlt)) hg hlo, ?_, ?_, fun l ol hol hk h1 h2 h3 => ?_, ?_, fun t k hk hwr u hu => ?_, keep_step I ho v', ?_⟩
  · have hR := RelK.of_rel hg.rel
    refine (hR.union (K' := KOf ops H (fun j => S j ∨ j = i) (i + 1)) hmle (fun r p hr => ?_) (fun u r p x hr hxx => ?_)).anti (fun u r p x _ h => ⟨u, Nat.le_refl _, h⟩) (fun g l hl => by rw [hx] at hl; exact hl)
    · by_cases hn : (H i).next ≤ r ∧ r < (H (i + 1)).next
      · exact (hg.rel.dom r p (hin' r p hr hn.2)).2
      · obtain ⟨h1, h2⟩ := I.rk.dom r p (hout r p hr hn)
        exact ⟨Nat.lt_of_lt_of_le h1 hg.size, h2⟩
    · rcases hxx with ⟨rfl, h1, h2⟩ | ⟨j, h1, h2, h3, h4, h5, h6, rfl, h7, h8⟩
      · exact .inl ⟨hin' r p hr h1, hnx.symm, by rw [hx] at h2; exact h2⟩
      · have hji := hS.mono (i := i + 1) (j := j) h1 (Nat.le_of_lt h2)
        have hSj : S j := h3.resolve_right (by omega)
        have hMr := hout r p hr (by omega)
        refine .inr ⟨h8, ?_, fun r' p' hne hr' => hpriv j r p h1 hSj h4 h5 h6 hMr r' p' hne hr'⟩
        refine (I.rk.obj _ r p x hMr (.inr ⟨j, by omega, h2, hSj, h4, h5, h6, rfl, h7, h8⟩)).mono (below_of_le hjle _) (hg.frame _ (I.rk.dom r p hMr).1 fun r₁ p₁ hr₁ _ => ?_)
        obtain ⟨h9, h10⟩ := below_iff.1 hr₁
        exact I.priv j r p (by omega) hSj h4 h5 h6 hMr r₁ p₁ (by omega) h10
  · intro j r p h1 h2 h3 h4 h5 hr r' p' hne hr'
    have hSj : S j := h2.resolve_right (by omega)
    have hji := hS.mono (i := i + 1) (j := j) h1 (Nat.le_of_lt (I.lt j hSj))
    exact hpriv j r p h1 hSj h3 h4 h5 (hout r p hr (by omega)) r' p' hne hr'
  · have hl : ¬ S l := fun h => h2 (.inl h)
    have hli : l < i := by
      have : l ≠ i := fun h => h2 (.inr h)
      omega
    exact hkeep l ol hol hk hli hl h3 (I.load_now hS hol hk hl h3 fun e p h4 h5 hp hpe => absurd hpe (e4 e p h4 (by omega) hp))
  · cases o.dst <;> simp [Act.put, I.tsize]
  · exact I.tmps_step hS ho hi hd hjle (hv.mono hmle') t k hk hwr u hu
  · cases o.dst <;> exact I.defers
end
end Go.AM

namespace Go.AM
variable [Maps] {B lo0 : Nat} {E : Env}
theorem store_exact (hE : EnvOk E) {call : Caller} {m : Match} {H H' : Heap} {w : World} {T : Tr Value} {a : Act} {o : Oper} {t : TypeId} {x y : Operand} {v : Value} (hR : Rel B lo0 m H w) (ht : TRel m T a.tmps) (ho : o.op = .store t x y) (h : exOp E call T o H = some (v, H')) :
    ∃ (r k n : Nat) (p : Spot) (C : Array Value) (e : TypeId) (fr : Nat × Nat) (new new' : List Value), footOf E T o.op = some (r, k, n) ∧ H.lo ≤ r ∧ m r = some p ∧ w.heap[p.blk]? = some (.cells C e fr) ∧ new.length = n ∧ LRel m new new' ∧
      (∃ cells g, H.objs.get r = some (.row cells g true) ∧ k + n ≤ cells.length ∧ p.base + cells.length ≤ C.size) ∧
      (execOp a.eval o).run E.P w = .ok .skip (setBlk w p.blk (.cells (putCells C (p.base + k) new') e fr)) := by
  unfold exOp at h
  simp only [ho, Option.bind_eq_some_iff, Option.some.injEq, Prod.mk.injEq] at h
  obtain ⟨u, h1, u2, h2, H2, h3, rfl, rfl⟩ := h
  have hx := ev_rel ht h1
  have hy := ev_rel ht h2
  unfold storeV at h3
  split at h3
  · rename_i r k
    simp only [Option.bind_eq_some_iff] at h3
    obtain ⟨n, h4, h5⟩ := h3
    obtain ⟨h6, h7⟩ := beq_cond h5
    have h6 : (cellsV u2).length = n := by simpa using h6
    obtain ⟨cells, grp, g1, g2, g3, g4, _⟩ := Heap.write_inv h7
    generalize hax : a.eval x = x' at hx
    generalize hay : a.eval y = y' at hy
    cases hx with
    | ptr hm =>
      rename_i p
      have hn := cellsV_rel hy
      have hlo : lo0 ≤ r := Nat.le_trans hR.lo g1
      obtain ⟨⟨C, e, fr, c1, c2, c3, c4, c5⟩, c6, c7⟩ := hR.obj r p _ hm g3
      have hall : (cellsV y').all isCell = true := by
        rw [List.all_eq_true] at g2 ⊢
        intro v' hv'
        obtain ⟨i, hi⟩ := List.mem_iff_getElem?.1 hv'
        have hlt : i < (cellsV u2).length := by rw [hn.1]; exact (List.getElem?_eq_some_iff.1 hi).1
        rw [isCell_rel (hn.2 i _ v' (List.getElem?_eq_getElem hlt) hi)]
        exact g2 _ (List.getElem_mem hlt)
      have hrun := run_storeCells (P := E.P) (o := p.base + k) (cellsV y') 0 w C c1 (by rw [← hn.1]; omega) (fun j _ h => c3 (decide_eq_true hlo) j (by rw [← hn.1] at h; omega)) hall
      refine ⟨r, k, n, p, C, e, fr, cellsV u2, cellsV y', ?_, g1, hm, c1, h6, hn, ⟨cells, grp, g3, by omega, c4⟩, ?_⟩
      · simp only [ho, footOf, h1, h4, Option.bind_some]
      · have hsz : y'.cells.size = n := by rw [← Array.length_toList, cells_toList, ← hn.1]; exact h6
        simp only [execOp, ho, hax, hay, Instr.storeAt, Instr.sureAddr, storeVar, Sem.run_bind, Sem.run_pure, Result.andThen_ok, hE.size h4, hsz, ne_eq, not_true_eq_false, if_false, cells_toList, hrun]
        rfl
  · simp at h3
theorem cells_run (hE : EnvOk E) {ty : TypeId} {u : Value} {m : Match} {p : Spot} {q : Nat} {w : World} (h : CellsOk E ty u m p q w) : ∃ v', (Instr.loadAt ty (.pointer (some ⟨p.blk, p.base + q, none⟩))).run E.P w = .ok v' w ∧ VRel m u v' := by
  obtain ⟨i, cs, cs', C, e, fr, h1, h2, h3, h4, h5, h6, h7⟩ := h
  have hagg := hE.isAgg h1
  cases ha : i.agg with
  | true =>
    rw [ha] at h3 hagg
    simp only [cond_true] at h3
    have hcell : ∀ (j : Nat) (v : Value), cs'[j]? = some v → w.cell? (Addr.add ⟨p.blk, p.base + q, none⟩ j) = some v := fun j v hv => by
      rw [add_plain, cell?_at h2, h5 j (by rw [h4.1]; exact (List.getElem?_eq_some_iff.1 hv).1)]
      exact hv
    have hrun := run_loadCells_list (P := E.P) w ⟨p.blk, p.base + q, none⟩ _ hcell
    rw [← h4.1, h3] at hrun
    refine ⟨.agg cs'.toArray, ?_, by rw [h6 ha]; exact .of_agg h4⟩
    simp only [Instr.loadAt, Instr.sureAddr, loadVar, Sem.run_bind, Sem.run_pure, Result.andThen_ok, hagg, hE.size' h1, hrun, if_true]
  | false =>
    rw [ha] at h3 hagg
    simp only [cond_false] at h3
    obtain ⟨v', d1, d2⟩ := h4.get (h7 ha)
    have h8 := h5 0 (by omega)
    rw [d1] at h8
    simp only [Nat.add_zero] at h8
    exact ⟨v', by simp [Instr.loadAt, Instr.sureAddr, loadVar, hagg, cell?_at h2, h8], d2⟩
theorem cells_of_row {ty : TypeId} {u : Value} {m : Match} {p : Spot} {r q : Nat} {w : World} {H : Heap} {cells : List Value} {C : Array Value} {e : TypeId} {fr : Nat × Nat} {g : Option (Nat × Nat)} {tp : Bool} (h : loadV E H ty (ptr r q) = some u) (hr : H.objs.get r = some (.row cells g tp))
    (hw : w.heap[p.blk]? = some (.cells C e fr)) (hc : CRel m cells C p.base) : CellsOk E ty u m p q w := by
  simp only [loadV, ptr, hr, Option.bind_eq_some_iff] at h
  obtain ⟨i, h1, h2⟩ := h
  cases ha : i.agg with
  | true =>
    rw [ha] at h2
    simp only [cond_true, Option.bind_eq_some_iff, Option.some.injEq] at h2
    obtain ⟨l, h3, rfl⟩ := h2
    obtain ⟨h4, rfl⟩ := cut_inv h3
    have hlen : ((cells.drop q).take i.size).length = i.size := by simp; omega
    have hget : ∀ j v, ((cells.drop q).take i.size)[j]? = some v → ∃ v', C[p.base + q + j]? = some v' ∧ VRel m v v' := fun j v hv => by
      rw [List.getElem?_take] at hv
      split at hv
      · rw [List.getElem?_drop] at hv
        obtain ⟨v', d1, d2⟩ := hc (q + j) v hv
        exact ⟨v', by rw [show p.base + q + j = p.base + (q + j) by omega]; exact d1, d2⟩
      · cases hv
    have hsz : p.base + q + i.size ≤ C.size ∨ i.size = 0 := by
      by_cases h0 : i.size = 0
      · exact .inr h0
      · left
        have hlt : i.size - 1 < ((cells.drop q).take i.size).length := by omega
        obtain ⟨v', d1, _⟩ := hget (i.size - 1) _ (List.getElem?_eq_getElem hlt)
        have := (Array.getElem?_eq_some_iff.1 d1).1
        omega
    refine ⟨i, (cells.drop q).take i.size, (C.toList.drop (p.base + q)).take i.size, C, e, fr, h1, hw, by rw [ha, hlen]; rfl, ⟨by rw [hlen]; simp; omega, fun j v v' hv hv' => ?_⟩, fun j hj => ?_, fun _ => rfl, fun h => by rw [ha] at h; cases h⟩
    · obtain ⟨v'', d1, d2⟩ := hget j v hv
      rw [List.getElem?_take] at hv'
      split at hv'
      · rw [List.getElem?_drop, Array.getElem?_toList, d1] at hv'
        cases hv'; exact d2
      · cases hv'
    · rw [List.getElem?_take, if_pos (by rw [hlen] at hj; exact hj), List.getElem?_drop, Array.getElem?_toList]
  | false =>
    rw [ha] at h2
    simp only [cond_false] at h2
    obtain ⟨v', d1, d2⟩ := hc q u h2
    refine ⟨i, [u], [v'], C, e, fr, h1, hw, by rw [ha]; rfl, .one d2, fun j hj => ?_, (fun h => by rw [ha] at h; cases h), (fun _ => rfl)⟩
    have : j = 0 := by simpa using hj
    subst this
    simpa using d1
theorem apartFrom_mem {T : Tr Value} {H : Heap} {r o n : Nat} : ∀ {l : List Op}, apartFrom E T H r o n l = true → ∀ p ∈ l, ∀ r' o' n', footOf E T p = some (r', o', n') → (r = r' ∧ (o + n ≤ o' ∨ o' + n' ≤ o)) ∨ (r ≠ r' ∧ (H.objs.get r').isSome = true)
  | q :: l, h, p, hp, r', o', n', hf => by
    simp only [apartFrom, Bool.and_eq_true] at h
    rcases List.mem_cons.1 hp with rfl | hp
    · have h1 := h.1
      rw [hf] at h1
      simp only at h1
      cases hb : Nat.beq r r' with
      | true =>
        rw [hb] at h1
        simp only [cond_true, Bool.or_eq_true, Nat.ble_eq] at h1
        exact .inl ⟨by simpa using hb, h1⟩
      | false =>
        rw [hb] at h1
        exact .inr ⟨fun h => by subst h; simp at hb, h1⟩
    · exact apartFrom_mem h.2 p hp r' o' n' hf
variable {call : Caller} {ops : Array Oper} {infos : List Info} {size : Nat} {T : Nat → Tr Value} {H : Nat → Heap} {v : Nat → Value} {wt : Nat → Bool}
variable {m : Match} {w₀ : World} {a₀ : Act} {S : Nat → Prop} {c : Nat} {M : Match} {a : Act} {w : World}
theorem load_apart {T₁ : Tr Value} {n₁ : Nat} {u : Value} {o : Oper} {ty : TypeId} {x : Operand} {M' : Match} {w' : World} {k : Nat} {p : Spot} {C : Array Value} {e : TypeId} {fr : Nat × Nat} {new' : List Value} (h : LoadOk E call lo0 T₁ n₁ u o M w) (ho : o.op = .load ty x) (hmost : ∀ k, k < n₁ → Maps.low k)
    (hle : M.le M') (hM : ∀ r p, r < n₁ → M' r = some p → M r = some p) (hb : w.heap[p.blk]? = some (.cells C e fr)) (hblk : ∀ b, b ≠ p.blk → w'.heap[b]? = w.heap[b]?) (hw : w'.heap[p.blk]? = some (.cells (putCells C (p.base + k) new') e fr))
    (hsz : p.base + k + new'.length ≤ C.size)
    (hap : ∀ r' o' n' p', footOf E T₁ o.op = some (r', o', n') → M r' = some p' → r' < n₁ → p'.blk = p.blk → p' = p ∧ (k + new'.length ≤ o' ∨ o' + n' ≤ k)) : LoadOk E call lo0 T₁ n₁ u o M' w' := by
  -- from cells to cells
  have key : ∀ r q i, r < n₁ → ∀ p', M r = some p' → ev T₁ x = some (ptr r q) → E.ty.get ty = some i → CellsOk E ty u (below M n₁) p' q w → CellsOk E ty u (below M' n₁) p' q w' := by
    rintro r q i hr p' hp hx hi ⟨i', cs, cs', C', e', fr', h1, h2, h3, h4, h5, h6⟩
    rw [hi] at h1; cases h1
    by_cases hbb : p'.blk = p.blk
    · obtain ⟨rfl, h7⟩ := hap r q (bif i.agg then i.size else 1) p' (by simp only [ho, footOf, hx, hi, Option.bind_some, ptr]) hp hr hbb
      rw [hb] at h2; cases h2
      refine ⟨i, cs, cs', _, e, fr, hi, hw, h3, h4.mono (below_of_le hle n₁), fun j hj => ?_, h6⟩
      rw [putCells_get hsz, if_neg (by omega)]
      exact h5 j hj
    · exact ⟨i, cs, cs', C', e', fr', hi, (hblk _ hbb).trans h2, h3, h4.mono (below_of_le hle n₁), h5, h6⟩
  rcases h with h | ⟨x', y, r, h1, h2, h3, h4⟩ | ⟨ty', x', r, q, h1, h2, h3⟩
  · exact .inl h
  · rw [ho, loadsFrom, Option.some.injEq] at h1
    subst h1
    have hex : ∀ Hx : Heap, exOp E call T₁ o Hx = (loadV E Hx ty y).bind fun v => some (v, Hx) := fun Hx => by
      unfold exOp
      simp only [ho, h2, Option.bind_some]
    -- is it a pointer
    cases y with
    | pointer a =>
      cases a with
      | none => simp [rowOfV] at h3
      | some ad =>
        obtain ⟨b, q, el⟩ := ad
        simp only [rowOfV, Option.some.injEq] at h3
        subst h3
        cases el with
        | some z =>
          refine .inr (.inl ⟨x, _, b, by rw [ho]; rfl, h2, rfl, fun hr p' hp => ?_⟩)
          obtain ⟨ob, _, _, h7⟩ := h4 hr p' (hM b p' hr hp)
          have hx : (({ objs := Tr.nil.set b ob, grps := Tr.nil, next := 0, lo := 0 } : Heap)).objs.get b = some ob := by
            show ((Tr.nil : Tr AObj).set b ob).get b = some ob
            exact Tr.get_set_self (hmost _ hr)
          have := h7 _ hx
          rw [hex] at this
          simp [loadV] at this
        | none =>
          refine .inr (.inr ⟨ty, x, b, q, ho, h2, fun hr p' hp => ?_⟩)
          have hp' := hM b p' hr hp
          obtain ⟨ob, h5, h6, h7⟩ := h4 hr p' hp'
          have hx : (({ objs := Tr.nil.set b ob, grps := Tr.nil, next := 0, lo := 0 } : Heap)).objs.get b = some ob := by
            show ((Tr.nil : Tr AObj).set b ob).get b = some ob
            exact Tr.get_set_self (hmost _ hr)
          have h8 := h7 _ hx
          rw [hex, Option.bind_eq_some_iff] at h8
          obtain ⟨u', h9, h10⟩ := h8
          simp only [Option.some.injEq, Prod.mk.injEq] at h10
          rw [h10.1] at h9
          have hrow : ∃ cells g tp i, ob = .row cells g tp ∧ E.ty.get ty = some i := by
            have h11 := h9
            simp only [loadV, hx] at h11
            split at h11
            · rename_i cells g tp heq
              simp only [Option.some.injEq] at heq
              simp only [Option.bind_eq_some_iff] at h11
              obtain ⟨i, h12, _⟩ := h11
              exact ⟨cells, g, tp, i, heq, h12⟩
            · simp at h11
          obtain ⟨cells, g, tp, i, rfl, hi⟩ := hrow
          obtain ⟨⟨C', e', fr', c1, c2, c3, c4, c5⟩, _⟩ := h5
          exact key b q i hr p' hp' h2 hi (cells_of_row h9 hx c1 c5)
    | slice _ _ _ =>
      refine .inr (.inl ⟨x, _, r, by rw [ho]; rfl, h2, h3, fun hr p' hp => ?_⟩)
      obtain ⟨ob, _, _, h7⟩ := h4 hr p' (hM r p' hr hp)
      have hx : (({ objs := Tr.nil.set r ob, grps := Tr.nil, next := 0, lo := 0 } : Heap)).objs.get r = some ob := by
        show ((Tr.nil : Tr AObj).set r ob).get r = some ob
        exact Tr.get_set_self (hmost _ hr)
      have := h7 _ hx
      rw [hex] at this
      simp [loadV] at this
    | map _ =>
      refine .inr (.inl ⟨x, _, r, by rw [ho]; rfl, h2, h3, fun hr p' hp => ?_⟩)
      obtain ⟨ob, _, _, h7⟩ := h4 hr p' (hM r p' hr hp)
      have hx : (({ objs := Tr.nil.set r ob, grps := Tr.nil, next := 0, lo := 0 } : Heap)).objs.get r = some ob := by
        show ((Tr.nil : Tr AObj).set r ob).get r = some ob
        exact Tr.get_set_self (hmost _ hr)
      have := h7 _ hx
      rw [hex] at this
      simp [loadV] at this
    | _ => simp [rowOfV] at h3
  · rw [ho] at h1
    cases h1
    refine .inr (.inr ⟨ty, x, r, q, ho, h2, fun hr p' hp => ?_⟩)
    have hp' := hM r p' hr hp
    have h4 := h3 hr p' hp'
    have hi := h4
    obtain ⟨i, _, _, _, _, _, hi, _⟩ := hi
    exact key r q i hr p' hp' h2 hi h4
theorem slice_of_row {t : TypeId} {y : Value} {lo hi mx : Option Value} {u : Value} {Hx : Heap} {r : Nat} {ob : AObj} (hx : Hx.objs.get r = some ob) (h : sliceV E Hx t y lo hi mx = some u) (hr : rowOfV y = some r) :
    (∃ cells grp tip, ob = .row cells grp tip ∧ ∀ (Hy : Heap) cells', Hy.objs.get r = some (.row cells' grp tip) → sliceV E Hy t y lo hi mx = some u) ∧ ((∃ o l c, y = .slice (some ⟨r, o, none⟩) l c) ∨ ∃ o, y = .pointer (some ⟨r, o, none⟩)) := by
  unfold sliceV at h
  simp only [Option.bind_eq_some_iff] at h
  obtain ⟨i, h6, h5⟩ := h
  split at h5
  · simp [rowOfV] at hr
  · rename_i r' o' len cap hd
    simp only [rowOfV, Option.some.injEq] at hr
    subst hr
    obtain ⟨hb, h5⟩ := bne_cond h5
    simp only [Option.bind_eq_some_iff] at h5
    obtain ⟨b, h7, z, h8, h5⟩ := h5
    refine ⟨?_, .inl ⟨_, _, _, rfl⟩⟩
    split at h5
    · rename_i hrow
      rw [hx] at hrow
      simp only [Option.some.injEq] at hrow
      refine ⟨_, _, _, hrow, fun Hy cells' hy => ?_⟩
      simp only [sliceV, h6, Option.bind_some, hd, hb, cond_false, h7, h8, hy, h5]
    · rename_i hrow
      rw [hx] at hrow
      simp only [Option.some.injEq] at hrow
      refine ⟨_, _, _, hrow, fun Hy cells' hy => ?_⟩
      simp only [sliceV, h6, Option.bind_some, hd, hb, cond_false, h7, h8, hy, h5]
    · simp at h5
  · simp [rowOfV] at hr
  · rename_i r' o' hd
    simp only [rowOfV, Option.some.injEq] at hr
    subst hr
    simp only [Option.bind_eq_some_iff] at h5
    obtain ⟨b, h7, z, h8, h5⟩ := h5
    refine ⟨?_, .inr ⟨_, rfl⟩⟩
    split at h5
    · rename_i hrow
      rw [hx] at hrow
      simp only [Option.some.injEq] at hrow
      refine ⟨_, _, _, hrow, fun Hy cells' hy => ?_⟩
      simp only [sliceV, h6, Option.bind_some, hd, h7, h8, hy, h5]
    · simp at h5
  · simp at h5
theorem slice_apart {T₁ : Tr Value} {n₁ : Nat} {u : Value} {o : Oper} {ty : TypeId} {x : Operand} {lo hi mx : Option Operand} {M' : Match} {w' : World} {k : Nat} {p : Spot} {C : Array Value} {e : TypeId} {fr : Nat × Nat} {new' : List Value} (h : LoadOk E call lo0 T₁ n₁ u o M w) (ho : o.op = .slice ty x lo hi mx) (hmost : ∀ k, k < n₁ → Maps.low k)
    (hle : M.le M') (hM : ∀ r p, r < n₁ → M' r = some p → M r = some p) (hb : w.heap[p.blk]? = some (.cells C e fr)) (hblk : ∀ b, b ≠ p.blk → w'.heap[b]? = w.heap[b]?) (hw : w'.heap[p.blk]? = some (.cells (putCells C (p.base + k) new') e fr))
    (hsz : p.base + k + new'.length ≤ C.size) (hap : ∀ r' o' n' p', footOf E T₁ o.op = some (r', o', n') → M r' = some p' → r' < n₁ → p'.blk = p.blk → p' = p) : LoadOk E call lo0 T₁ n₁ u o M' w' := by
  rcases h with h | ⟨x', y, r, h1, h2, h3, h4⟩ | ⟨ty', x', r, q, h1, h2, h3⟩
  · exact .inl h
  · rw [ho, loadsFrom, Option.some.injEq] at h1
    subst h1
    refine .inr (.inl ⟨x, y, r, by rw [ho]; rfl, h2, h3, fun hr p' hp => ?_⟩)
    have hp' := hM r p' hr hp
    obtain ⟨ob, h5, h6, h7⟩ := h4 hr p' hp'
    have hx : (({ objs := Tr.nil.set r ob, grps := Tr.nil, next := 0, lo := 0 } : Heap)).objs.get r = some ob := by
      show ((Tr.nil : Tr AObj).set r ob).get r = some ob
      exact Tr.get_set_self (hmost _ hr)
    have h8 := h7 _ hx
    unfold exOp at h8
    simp only [ho, h2, Option.bind_some, Option.bind_eq_some_iff, Option.some.injEq, Prod.mk.injEq] at h8
    obtain ⟨u3, g3, u4, g4, u5, g5, u6, g6, rfl, _⟩ := h8
    obtain ⟨⟨cells, grp, tip, rfl, hall⟩, hy⟩ := slice_of_row hx g6 h3
    by_cases hbb : p'.blk = p.blk
    · have hpp := hap r 0 0 p' (by rcases hy with ⟨o', l, c, rfl⟩ | ⟨o', rfl⟩ <;> simp only [ho, footOf, h2, Option.bind_some]) hp' hr hbb
      subst hpp
      refine ⟨.row [] grp tip, ?_, fun c g z t hc => ?_, fun Hx hx => ?_⟩
      · obtain ⟨⟨C', e', fr', c1, c2, c3, c4, c5⟩, c6, c7⟩ := h5
        rw [hb] at c1
        simp only [Option.some.injEq, Obj.cells.injEq] at c1
        obtain ⟨rfl, rfl, rfl⟩ := c1
        have hsz : (putCells C (p'.base + k) new').size = C.size := putCells_size hsz
        exact ⟨⟨_, e, fr, hw, by rw [hsz]; exact c2, by rw [hsz]; exact c3, by rw [hsz]; simp only [List.length_nil]; omega, fun i v h => by simp at h⟩, c6, c7⟩
      · cases hc
        exact h6 _ _ _ _ rfl
      · unfold exOp
        simp only [ho, h2, g3, g4, g5, Option.bind_some, hall Hx [] hx]
    · exact ⟨_, h5.mono (below_of_le hle n₁) (hblk _ hbb), h6, h7⟩
  · rw [ho] at h1
    cases h1
theorem LoadOk.cells {T₁ : Tr Value} {n₁ : Nat} {u : Value} {o : Oper} {ty : TypeId} {x : Operand} {r q : Nat} (h : LoadOk E call lo0 T₁ n₁ u o M w) (ho : o.op = .load ty x) (hx : ev T₁ x = some (ptr r q)) (hmost : ∀ k, k < n₁ → Maps.low k) :
    (∀ Hx, exOp E call T₁ o Hx = some (u, Hx)) ∨ (r < n₁ → ∀ p, M r = some p → CellsOk E ty u (below M n₁) p q w) := by
  rcases h with h | ⟨x', y, r', h1, h2, h3, h4⟩ | ⟨ty', x', r', q', h1, h2, h3⟩
  · exact .inl h
  · rw [ho, loadsFrom, Option.some.injEq] at h1
    subst h1
    rw [hx, Option.some.injEq] at h2
    subst h2
    simp only [ptr, rowOfV, Option.some.injEq] at h3
    subst h3
    refine .inr fun hr p hp => ?_
    obtain ⟨ob, h5, h6, h7⟩ := h4 hr p hp
    have hx' : (({ objs := Tr.nil.set r ob, grps := Tr.nil, next := 0, lo := 0 } : Heap)).objs.get r = some ob := by
      show ((Tr.nil : Tr AObj).set r ob).get r = some ob
      exact Tr.get_set_self (hmost _ hr)
    have h8 := h7 _ hx'
    unfold exOp at h8
    simp only [ho, hx, Option.bind_some] at h8
    rw [Option.bind_eq_some_iff] at h8
    obtain ⟨u', h9, h10⟩ := h8
    simp only [Option.some.injEq, Prod.mk.injEq] at h10
    rw [h10.1] at h9
    have hrow : ∃ cells g tp, ob = .row cells g tp := by
      have h11 := h9
      simp only [loadV, ptr, hx'] at h11
      split at h11
      · rename_i cells g tp heq
        simp only [Option.some.injEq] at heq
        exact ⟨cells, g, tp, heq⟩
      · simp at h11
    obtain ⟨cells, g, tp, rfl⟩ := hrow
    obtain ⟨⟨C', e', fr', c1, c2, c3, c4, c5⟩, _⟩ := h5
    exact cells_of_row h9 hx' c1 c5
  · rw [ho] at h1
    cases h1
    rw [hx, Option.some.injEq] at h2
    simp only [ptr, Value.pointer.injEq, Option.some.injEq, Addr.mk.injEq, and_true] at h2
    obtain ⟨rfl, rfl⟩ := h2
    exact .inr h3
theorem CellsOk.turn {ty : TypeId} {u : Value} {m₁ m₂ m₃ : Match} {p p' : Spot} {q q' : Nat} {w w' : World} (hle : ∀ r p q, m₁ r = some p → m₂ r = some q → m₃ r = some q) (h1 : CellsOk E ty u m₁ p q w) (h2 : CellsOk E ty u m₂ p' q' w') : CellsOk E ty u m₃ p' q' w' := by
  obtain ⟨i, cs, cs', C, e, fr, a1, a2, a3, a4, a5, a6, a7⟩ := h1
  obtain ⟨i', ds, ds', D, e', fr', b1, b2, b3, b4, b5, b6, b7⟩ := h2
  rw [a1] at b1
  cases b1
  have hcd : cs = ds := by
    cases ha : i.agg with
    | true =>
      have h1 := a6 ha
      have h2 := b6 ha
      rw [h1] at h2
      simpa using h2
    | false =>
      have h1 := a7 ha
      have h2 := b7 ha
      rw [ha] at a3 b3
      match cs, ds, a3, b3 with
      | [x], [y], _, _ => simp at h1 h2; rw [h1, h2]
  subst hcd
  exact ⟨i, cs, ds', D, e', fr', a1, b2, a3, a4.sub hle b4, b5, b6, b7⟩
theorem keepOk_mem {T : Tr Value} {H' : Heap} {ty : TypeId} {t d : Tmp} : ∀ {ks : List (TypeId × Tmp × Tmp)}, keepOk E T H' ks = true → (ty, t, d) ∈ ks → ∃ a u, T.get t = some a ∧ T.get d = some u ∧ loadV E H' ty a = some u
  | [], _, h => by simp at h
  | (ty', t', d') :: l, h, hm => by
    simp only [keepOk, Bool.and_eq_true] at h
    rcases List.mem_cons.1 hm with hm | hm
    · cases hm
      have h1 := h.1
      split at h1
      · rename_i a ha
        split at h1
        · rename_i u hu
          split at h1
          · rename_i u' hu'
            exact ⟨a, u, ha, hu, by rw [hu', sameV_eq h1]⟩
          · simp at h1
        · simp at h1
      · simp at h1
    · exact keepOk_mem h.2 hm
theorem exOp_T {T T2 : Tr Value} {o : Oper} {Hx Hx' : Heap} {u : Value} (he : ∀ x ∈ o.op.operands.toList, ev T2 x = ev T x) (h : exOp E call T o Hx = some (u, Hx')) : exOp E call T2 o Hx = some (u, Hx') := by
  rw [exOp_congr he]; exact h
theorem Inv.step (hS : Setup E call ops infos size T H v wt) (hc : CallSim B lo0 E call) (hl0 : lo0 ≤ (H 0).lo) (I : Inv E call ops infos size T H v wt B lo0 m w₀ a₀ S c M a w) {i : Nat} {o : Oper} (ho : ops[i]? = some o) (hi : ¬ S i) (hd : ∀ j, Dep ops i j → S j)
    {ro : Option Nat} {Q : Exit → Act → World → Prop} :
    wpOpIn (fenceOf ro) 0 E.P ops Q i (fun a' w' => ∃ c' M', Inv E call ops infos size T H v wt B lo0 m w₀ a₀ (fun j => S j ∨ j = i) c' M' a' w') a w := by
  obtain ⟨T2, ht, hev, hwant⟩ := I.looks hS ho hi hd
  have hlt := op_lt ho
  have hwa := hS.text.want i o (op_list ho)
  rw [← hwant] at hwa
  have hreg := wanted_rel hwa ht
  have hnN := hS.mono (Nat.le_of_lt hlt) (Nat.le_refl _)
  have hn0 := hS.mono (Nat.zero_le i) (Nat.le_of_lt hlt)
  have h0 := hS.lo
  unfold wpOpIn
  simp only [ho, hreg]
  cases hw : wt i with
  | false =>
    simp only [Bool.false_eq_true, if_false]
    exact ⟨about_fn, _, _, I.skip hS ho hi hd hw⟩
  | true =>
    simp only [if_true]
    obtain ⟨inf, hinf⟩ := hS.stat.info i o ho
    obtain ⟨hap, H', h1, h2⟩ := hS.text.done i o inf (op_list ho) hinf hw
    have hmost : ∀ k, k < (H i).next → Maps.low k := fun k hk => Maps.lim_low hS.next (Nat.le_trans (Nat.le_of_lt hk) hnN)
    -- nothing made
    have hnone : ¬ isEff o → H (i + 1) = H i → ∀ Hx : Heap, Rel B lo0 (below M (H i).next) Hx w → (H i).next ≤ Hx.lo → Hx.lo = Hx.next → exOp E call (T i) o Hx = some (v i, Hx) →
        o.wpIn (fenceOf ro) 0 E.P a w (fun a' w' => ∃ c' M', Inv E call ops infos size T H v wt B lo0 m w₀ a₀ (fun j => S j ∨ j = i) c' M' a' w') Q := by
      intro hne hst Hx hR hlo hln hx
      refine oper_sim hS.env hc hR ht (exOp_T hev hx) fun v' w' m' hg hv => ⟨_, _, I.quiet hS ho hi hd hne hlo hl0 hg hv (fun r p hr => ?_) (by rw [hst]; omega) (.inr (by rw [hst])) (fun r p x _ h3 h4 => by rw [hst] at h4; omega)⟩
      rcases hg.new r p hr with h | ⟨_, h⟩
      · exact .inl h
      · have := (hg.rel.dom r p hr).1; omega
    -- an effect
    have heff : isEff o → Rel B lo0 (below M (H i).next) { objs := (H i).objs, grps := (H i).grps, next := (H i).next, lo := bif inf.grow then (H i).next else (H i).lo } w ∧ (H 0).lo ≤ (bif inf.grow then (H i).next else (H i).lo) ∧
        (∀ l, l < i → ¬ S l → ¬ Dep ops i l ∧ ¬ Dep ops l i) ∧ (∀ (m' : Match) (l : Nat), l < i → ∀ r p, r < (H l).next → join M m' (H i).next (H (i + 1)).next r = some p → M r = some p) := fun he => by
      obtain ⟨e1, e2, e3, e4⟩ := I.effs hS ho hi hd he
      have htr : ∀ r p x, M r = some p → r < (H i).next → (H i).objs.get r = some x → ∃ u, u ≤ (H i).next ∧ KOf ops H S c u r x := fun r p x hm hr hx => by
        have := I.trace hS (i - c) (by omega) (fun e p h1 h2 hp hpe => absurd hpe (e4 e p h1 (by omega) hp)) r p x hm (by rw [show c + (i - c) = i by omega]; exact hr) (by rw [show c + (i - c) = i by omega]; exact hx)
        rwa [show c + (i - c) = i by omega] at this
      have hgr : (H i).grps = (H c).grps := by
        have := I.grps hS (i - c) (by omega) (fun e p h1 h2 hp hpe => absurd hpe (e4 e p h1 (by omega) hp))
        rwa [show c + (i - c) = i by omega] at this
      have hls := hS.lows i (Nat.le_of_lt hlt)
      refine ⟨I.rk.rel (by cases inf.grow <;> simp <;> omega) (by cases inf.grow <;> simp <;> omega) (Nat.le_refl _) htr (fun g l h => by rw [← hgr]; exact h), by cases inf.grow <;> simp <;> omega, fun l hli hnl => ⟨fun h => hnl (hd l h), fun h => by have := h.lt hS.stat.edge; omega⟩, fun m' l hli r p hr hp => ?_⟩
      have := hS.mono (Nat.le_of_lt hli) (Nat.le_of_lt hlt)
      unfold join at hp
      rw [if_neg (by omega)] at hp
      exact hp
    cases hk : kindOf o.op with
    | pure =>
      have hne : ¬ isEff o := fun h => by rcases h with h | h <;> rw [hk] at h <;> cases h
      exact hnone hne (hS.still ho (.inr (.inl hk))) _ (rel_none I.rk hnN (by omega)) hnN rfl ((exOp_pure hk h1).2 _)
    | load =>
      have hne : ¬ isEff o := fun h => by rcases h with h | h <;> rw [hk] at h <;> cases h
      have hst := hS.still ho (.inr (.inr hk))
      have hload : LoadOk E call lo0 (T i) (H i).next (v i) o M w := by
        refine I.load_now hS ho hk hi hw fun e p h3 h4 hp hpe _ => ?_
        have hSe : ¬ S e := fun h => by have := (I.eff e p hp hpe).1 h; omega
        have hd1 : ¬ Dep ops e i := fun h => by have := h.lt hS.stat.edge; omega
        have hd2 : ¬ Dep ops i e := fun h => hSe (hd e h)
        obtain ⟨inf', hi'⟩ := hS.stat.info e p hp
        refine ⟨inf', hi', ?_⟩
        rcases hpe with hpe | hpe
        · have := (hS.stat.stl e p i o inf' hp ho hpe hk hi' hd1 hd2).1; omega
        · rcases hS.stat.grow e p i o inf' hp ho hpe hk hi' hd1 hd2 with h | ⟨h, _⟩
          · exact h
          · omega
      rcases hload with h | ⟨x, u, r, h3, h4, h5, h6⟩ | ⟨ty, x, r, q, h3, h4, h5⟩
      · exact hnone hne hst _ (rel_none I.rk hnN (by omega)) hnN rfl (h _)
      · have hu := ev_rel ht ((hev x (by simpa using loadsFrom_mem h3)).trans h4)
        obtain ⟨p, hp⟩ := row_matched hu h5
        obtain ⟨hr, hp⟩ := below_iff.1 hp
        obtain ⟨ob, h7, h8, h9⟩ := h6 hr p hp
        refine hnone hne hst _ (rel_one I.rk hnN (by omega) hp h7 h8) hnN rfl (h9 _ ?_)
        show ((Tr.nil : Tr AObj).set r ob).get r = some ob
        exact Tr.get_set_self (hmost _ hr)
      · have hu := ev_rel ht ((hev x (by rw [h3]; simp [Op.operands])).trans h4)
        obtain ⟨p, hp⟩ : ∃ p, below M (H i).next r = some p := row_matched hu rfl
        obtain ⟨hr, hpM⟩ := below_iff.1 hp
        obtain ⟨v', h6, h7⟩ := cells_run hS.env (h5 hr p hpM)
        have hax : a.eval x = .pointer (some ⟨p.blk, p.base + q, none⟩) := by
          generalize a.eval x = z at hu
          cases hu with
          | ptr h8 => rw [hp] at h8; cases h8; rfl
        have hR : Rel B lo0 (below M (H i).next) { objs := Tr.nil, grps := Tr.nil, next := (H i).next, lo := (H i).next } w := rel_none I.rk (Nat.le_refl _) (by omega)
        have hpos : UpTo E.P (fun v'' w'' => v'' = v' ∧ w'' = w) ((execOp a.eval o).run E.P w) := by
          have : (execOp a.eval o).run E.P w = .ok (.value v') w := by
            simp only [execOp, h3, hax, Sem.run_bind, h6, Result.andThen_ok, Sem.run_pure]
          rw [this]; exact ⟨rfl, rfl⟩
        refine ⟨about_fn, ?_⟩
        rw [Oper.semAt_eq _ _ _ (exOp_noDefer h1)]
        refine UpTo.uponIn hpos fun v'' w'' ⟨hv', hw'⟩ => ?_
        subst hv' hw'
        exact ⟨_, _, I.quiet hS ho hi hd hne (Nat.le_refl _) hl0 (.refl hR) h7 (fun r p hr => .inl hr) (by rw [hst]; omega) (.inr (by rw [hst])) (fun r p x _ h3 h4 => by rw [hst] at h4; omega)⟩
    | alloc =>
      have hne : ¬ isEff o := fun h => by rcases h with h | h <;> rw [hk] at h <;> cases h
      obtain ⟨ob, h3, h4, _, h6, h7⟩ := hS.alloc ho hk hw
      have hR : Rel B lo0 (below M (H i).next) { objs := Tr.nil, grps := Tr.nil, next := (H i).next, lo := (H i).next } w := rel_none I.rk (Nat.le_refl _) (by omega)
      refine oper_sim hS.env hc hR ht (exOp_T hev (h7 _ rfl)) fun v' w' m' hg hv => ⟨_, _, I.quiet hS ho hi hd hne (Nat.le_refl _) hl0 hg hv (fun r p hr => ?_) (by omega) (.inl hk) (fun r p x hr h8 h9 hx => ?_)⟩
      · rcases hg.new r p hr with h | ⟨_, h⟩
        · exact .inl h
        · have := (hg.rel.dom r p hr).1
          rw [add_next] at this
          have h : (H i).next ≤ r := h
          have this : r < (H i).next + 1 := this
          exact .inr ⟨h, by omega⟩
      · rcases h6 r x hx with ⟨rfl, rfl⟩ | ⟨h10, _⟩
        · refine ⟨h3, hg.rel.obj _ p x hr ?_⟩
          simp only [Heap.add, forceNat_eq, Tr.force_eq]
          exact Tr.get_set_self (Maps.lim_low hS.next (by have h1 := hS.mono (i := i + 1) (j := ops.size) hlt (Nat.le_refl _); omega))
        · omega
    | call =>
      obtain ⟨hR, hlo, hfree, hjr⟩ := heff (.inr hk)
      refine oper_sim hS.env hc hR ht (exOp_T hev h1) fun v' w' m' hg hv => ⟨_, _, I.effect hS ho hi hd (.inr hk) hlo (by rfl) h2 hg hv fun l ol hol hkl hli hnl hwl hld => ?_⟩
      obtain ⟨f1, f2⟩ := hfree l hli hnl
      have hln := hS.mono (Nat.le_of_lt hli) (Nat.le_of_lt hlt)
      have hjle := I.join_le hS hi hlt m'
      rcases hS.stat.grow i o l ol inf ho hol hk hkl hinf f1 f2 with hgrow | ⟨_, lty, lt, ld, g1, g2, g3, g4, g5⟩
      rotate_left
      · -- the load would read the same behind it
        obtain ⟨av, u, k1, k2, k3⟩ := keepOk_mem (hS.text.kept i o inf (op_list ho) hinf hw) g3
        have t1 : (T i).get lt = (T l).get lt := hS.same (hS.tlt i (Nat.le_of_lt hlt) lt av k1) (Nat.le_of_lt hli) (Nat.le_of_lt hlt) fun j q h1 _ hq => g4 j q h1 hq
        have t2 : (T i).get ld = (T (l + 1)).get ld := hS.same (hS.tlt i (Nat.le_of_lt hlt) ld u k2) hli (Nat.le_of_lt hlt) fun j q h1 _ hq => g5 j q h1 hq
        rw [t2] at k2
        have hu := hS.put_self hol g2 k2
        subst hu
        have hrow : ∃ r q cells g tp, av = ptr r q ∧ (H (i + 1)).objs.get r = some (.row cells g tp) := by
          have k4 := k3
          unfold loadV at k4
          split at k4
          · rename_i r q
            split at k4
            · rename_i cells g tp heq
              exact ⟨r, q, cells, g, tp, rfl, heq⟩
            · simp at k4
          · simp at k4
        obtain ⟨r, q, cells, g, tp, rfl, hrw⟩ := hrow
        have hevl : ev (T l) (.tmp lt) = some (ptr r q) := t1.symm.trans k1
        rcases hld.cells g1 hevl (fun k hk => Maps.lim_low hS.next (by omega)) with h | hcl
        · exact .inl h
        refine .inr (.inr ⟨lty, .tmp lt, r, q, g1, hevl, fun hr p hp => ?_⟩)
        have hMp := hjr m' l hli r p hr hp
        have hm'p : m' r = some p := hg.le r p (below_iff.2 ⟨by omega, hMp⟩)
        have hrw' : H'.objs.get r = some (.row cells g tp) := by rw [h2] at hrw; exact hrw
        obtain ⟨⟨C, e, fr, c1, c2, c3, c4, c5⟩, _⟩ := hg.rel.obj r p _ hm'p hrw'
        refine (hcl hr p hMp).turn (fun r₁ p₁ q₁ h1 h2 => ?_) (cells_of_row k3 hrw c1 c5)
        obtain ⟨h3, h4⟩ := below_iff.1 h1
        refine below_iff.2 ⟨h3, ?_⟩
        have h5 := hg.le r₁ p₁ (below_iff.2 ⟨by omega, h4⟩)
        rw [h2] at h5
        cases h5
        exact hjle r₁ p₁ h4
      refine hld.mono (I.join_le hS hi hlt m') (hjr m' l hli) fun r p _ hp => hg.frame _ (I.rk.dom r p hp).1 fun r₁ p₁ hr₁ hl₁ => ?_
      have := (below_iff.1 hr₁).1
      rw [hgrow] at hl₁
      simp only [cond_true] at hl₁
      omega
    | store =>
      obtain ⟨hR, hlo, hfree, hjr⟩ := heff (.inl hk)
      obtain ⟨ty, x, y, hop⟩ : ∃ ty x y, o.op = .store ty x y := by
        cases hop : o.op <;> rw [hop] at hk <;> simp only [kindOf, reduceCtorEq] at hk
        case convert s d x => cases hb : Nat.beq s BT <;> rw [hb] at hk <;> cases hk
        · exact ⟨_, _, _, rfl⟩
        · rename_i cc
          cases hcc : cc.callee with
          | builtin b => rw [hcc] at hk; cases b <;> cases hk
          | _ => rw [hcc] at hk; cases hk
      have hgw := hS.stat.store i o inf ho hk hinf
      obtain ⟨r, k, n, p, C, e, fr, new, new', g1, g2, g3, g4, g5, g6, ⟨cells, gp, g7, g8, g9⟩, g10⟩ := store_exact hS.env hR ht hop (exOp_T hev h1)
      have hsim := exOp_sim hS.env hc hR ht (exOp_T hev h1)
      rw [Sim, g10] at hsim
      obtain ⟨m', hg, hv⟩ := hsim
      have hpos : UpTo E.P (fun v' w' => v' = undef ∧ w' = setBlk w p.blk (.cells (putCells C (p.base + k) new') e fr)) ((execOp a.eval o).run E.P w) := by rw [g10]; exact ⟨rfl, rfl⟩
      refine ⟨about_fn, ?_⟩
      rw [Oper.semAt_eq _ _ _ (exOp_noDefer h1)]
      refine UpTo.uponIn hpos fun v' w' ⟨hv', hw'⟩ => ?_
      subst hv' hw'
      refine ⟨_, _, I.effect hS ho hi hd (.inl hk) hlo (by rfl) h2 hg hv fun l ol hol hkl hli hnl hwl hld => ?_⟩
      obtain ⟨f1, f2⟩ := hfree l hli hnl
      obtain ⟨_, f4, lt, f5, f6⟩ := hS.stat.stl i o l ol inf ho hol hk hkl hinf f1 f2
      obtain ⟨g3r, g3m⟩ := below_iff.1 g3
      have hjle := I.join_le hS hi hlt m'
      have hln := hS.mono (Nat.le_of_lt hli) (Nat.le_of_lt hlt)
      have hblt : p.blk < w.heap.size := (I.rk.dom r p g3m).1
      suffices hkey : ∀ r' o' n' p', footOf E (T l) ol.op = some (r', o', n') → M r' = some p' → r' < (H l).next → p'.blk = p.blk → p' = p ∧ (k + new'.length ≤ o' ∨ o' + n' ≤ k) by
        rcases f5 with ⟨lty, f5⟩ | ⟨lty, llo, lhi, lmx, f5⟩
        · exact load_apart hld f5 (fun k hk => Maps.lim_low hS.next (by omega)) hjle (hjr m' l hli) g4 (fun b hb => setBlk_other _ hb) (setBlk_self _ hblt) (by rw [← g6.1]; omega) hkey
        · exact slice_apart hld f5 (fun k hk => Maps.lim_low hS.next (by omega)) hjle (hjr m' l hli) g4 (fun b hb => setBlk_other _ hb) (setBlk_self _ hblt) (by rw [← g6.1]; omega) fun r' o' n' p' hf hm' hr' hbb => (hkey r' o' n' p' hf hm' hr' hbb).1
      intro r' o' n' p' hf hm' hr' hbb
      -- the foot at the store's time
      have hf' : footOf E (T i) ol.op = some (r', o', n') := by
        have : ev (T i) (.tmp lt) = ev (T l) (.tmp lt) := by
          have hev : ∃ u, ev (T l) (.tmp lt) = some u := by
            rcases f5 with ⟨lty, f5⟩ | ⟨lty, llo, lhi, lmx, f5⟩ <;> (rw [f5] at hf; simp only [footOf, Option.bind_eq_some_iff] at hf; obtain ⟨u, hu, _⟩ := hf; exact ⟨u, hu⟩)
          obtain ⟨u, hu⟩ := hev
          have hlt2 := hS.tlt l (by omega) lt u hu
          exact hS.same hlt2 (Nat.le_of_lt hli) (Nat.le_of_lt hlt) fun j q h1 _ hq => f6 j q h1 hq
        rcases f5 with ⟨lty, f5⟩ | ⟨lty, llo, lhi, lmx, f5⟩ <;> (rw [f5] at hf ⊢; simp only [footOf, this] at hf ⊢; exact hf)
      have hg1 : footOf E (T i) o.op = some (r, k, n) := by
        have hxx : ev T2 x = ev (T i) x := hev x (by rw [hop]; simp [Op.operands])
        rw [hop] at g1 ⊢
        simp only [footOf, hxx] at g1 ⊢
        exact g1
      have hap' : (match (H i).objs.get r with | some (.row _ none _) => apartFrom E (T i) (H i) r k n inf.apart | _ => false) = true := by
        unfold storeApart at hap
        split at hap
        · rename_i heq; rw [heq] at f4; cases f4
        · rw [hg1] at hap; exact hap
      split at hap'
      · rename_i cs tp hrow
        rcases apartFrom_mem hap' ol.op f4 r' o' n' hf' with ⟨h3, h4⟩ | ⟨h3, h4⟩
        · subst h3
          rw [g3m] at hm'; cases hm'
          exact ⟨rfl, by rw [← g6.1, g5]; exact h4⟩
        · exfalso
          obtain ⟨x2, hx2⟩ := Option.isSome_iff_exists.1 h4
          have hlo0 : lo0 ≤ r := by
            rw [hgw] at g2
            simp only [cond_false] at g2
            have := (hS.lows i (Nat.le_of_lt hlt)).1
            omega
          have := hR.sep r r' p p' _ x2 h3 hlo0 g3 (below_iff.2 ⟨by omega, hm'⟩) hrow hx2 hbb.symm
          exact this
      · cases hap'
end Go.AM

namespace Go.AM
section
variable [Maps] {B lo0 : Nat} {E : Env}
variable {call : Caller} {ops : Array Oper} {infos : List Info} {size : Nat} {T : Nat → Tr Value} {H : Nat → Heap} {v : Nat → Value} {wt : Nat → Bool}
variable {m : Match} {w₀ : World} {a₀ : Act}
def SOf (N : Nat) (listed : Array Bool) (j : Nat) : Prop := j < N ∧ listed.getD j true = true
end
section
variable {B lo0 : Nat} {m : Match} {w : World} {P : Program}
theorem SOf.set {N : Nat} {listed : Array Bool} (hs : listed.size = N) {i : Nat} (hi : i < N) : (fun j => SOf N listed j ∨ j = i) = SOf N (listed.setIfInBounds i true) := by
  funext j
  apply propext
  unfold SOf
  by_cases hj : j = i
  · subst hj
    simp [hi, Array.getD_eq_getD_getElem?, hs]
  · have : (listed.setIfInBounds i true).getD j true = listed.getD j true := by
      rw [Array.getD_eq_getD_getElem?, Array.getD_eq_getD_getElem?, Array.getElem?_setIfInBounds_ne (Ne.symm hj)]
    rw [this]
    simp [hj]
theorem binds_any {md : Region.Mode} {e : Edge} (h : Region.binds .any e = true) : Region.binds md e = true := by
  unfold Region.binds at *
  split at h <;> simp_all
theorem count_set : ∀ (l : List Bool) (i : Nat), l[i]? = some false → (l.set i true).count false + 1 = l.count false
  | [], i, h => by simp at h
  | b :: l, 0, h => by
    simp only [List.getElem?_cons_zero, Option.some.injEq] at h
    subst h
    simp
  | b :: l, i + 1, h => by
    have := count_set l i (by simpa using h)
    simp only [List.set_cons_succ, List.count_cons]
    omega
end
section
variable [Maps] {B lo0 : Nat} {E : Env}
variable {call : Caller} {ops : Array Oper} {infos : List Info} {size : Nat} {T : Nat → Tr Value} {H : Nat → Heap} {v : Nat → Value} {wt : Nat → Bool}
variable {m : Match} {w₀ : World} {a₀ : Act}
theorem any_order (hS : Setup E call ops infos size T H v wt) (hc : CallSim B lo0 E call) (hl0 : lo0 ≤ (H 0).lo) {ro : Option Nat} {Q : Exit → Act → World → Prop} {md : Region.Mode}
    (hall : ∀ listed : Array Bool, Region.ready md ops listed = [] → listed.size = ops.size → ∀ i, i < ops.size → listed.getD i true = true)
    (hq : ∀ c M a w, Inv E call ops infos size T H v wt B lo0 m w₀ a₀ (fun j => j < ops.size) c M a w → Q .normal a w) : ∀ (fuel : Nat) (listed : Array Bool), listed.size = ops.size → listed.toList.count false ≤ fuel → ∀ c M a w,
    Inv E call ops infos size T H v wt B lo0 m w₀ a₀ (SOf ops.size listed) c M a w → wpAnyIn (fenceOf ro) 0 E.P md ops Q fuel listed a w := by
  have hend : ∀ (listed : Array Bool), listed.size = ops.size → Region.ready md ops listed = [] → ∀ c M a w, Inv E call ops infos size T H v wt B lo0 m w₀ a₀ (SOf ops.size listed) c M a w → Q .normal a w := fun listed hs hr c M a w I => by
    have : SOf ops.size listed = fun j => j < ops.size := by
      funext j
      apply propext
      exact ⟨fun h => h.1, fun h => ⟨h, hall listed hr hs j h⟩⟩
    rw [this] at I
    exact hq c M a w I
  intro fuel
  induction fuel with
  | zero =>
    intro listed hs hn c M a w I
    have hr : Region.ready md ops listed = [] := by
      apply List.eq_nil_iff_forall_not_mem.2
      intro j hj
      have h1 := (mem_ready.1 hj).1
      have h2 : false ∈ listed.toList := by
        rw [Array.getD_eq_getD_getElem?] at h1
        cases h3 : listed[j]? with
        | none => rw [h3] at h1; simp at h1
        | some b => rw [h3] at h1; simp at h1; subst h1; exact List.mem_of_getElem? (by rw [Array.getElem?_toList]; exact h3)
      have := List.count_pos_iff.2 h2
      omega
    exact ⟨hr, hend listed hs hr c M a w I⟩
  | succ fuel ih =>
    intro listed hs hn c M a w I
    refine ⟨fun hr => hend listed hs hr c M a w I, fun i hi => ?_⟩
    obtain ⟨h1, o, ho, h2⟩ := mem_ready.1 hi
    have hlt := op_lt ho
    have hni : ¬ SOf ops.size listed i := fun h => by rw [h.2] at h1; cases h1
    have hd : ∀ j, Dep ops i j → SOf ops.size listed j := fun j hj => by
      obtain ⟨o', ho', e, h3, h4, h5⟩ := hj.inv
      rw [ho] at ho'; cases ho'
      have h3 : e ∈ o.after := by simpa using h3
      have h6 := h2 e h3 (binds_any h4)
      have h7 : e.on < ops.size := by
        rcases hS.stat.edge i o e ho h3 with h | h
        · omega
        · exact h.2
      have h8 : SOf ops.size listed e.on := ⟨h7, by
        have hlt' : e.on < listed.size := by rw [hs]; exact h7
        rw [Array.getD_eq_getD_getElem?, Array.getElem?_eq_getElem hlt'] at h6 ⊢
        simpa using h6⟩
      rcases h5 with h5 | h5
      · rw [← h5]; exact h8
      · exact I.closed e.on j h8 h5
    refine wpOpIn_mono (fun a' w' ⟨c', M', I'⟩ => ?_) (I.step hS hc hl0 ho hni hd (ro := ro) (Q := Q))
    rw [SOf.set hs hlt] at I'
    refine ih _ (by simpa using hs) ?_ c' M' a' w' I'
    have h3 : listed.toList[i]? = some false := by
      have hlt' : i < listed.size := by rw [hs]; exact hlt
      rw [Array.getD_eq_getD_getElem?, Array.getElem?_eq_getElem hlt'] at h1
      rw [Array.getElem?_toList, Array.getElem?_eq_getElem hlt']
      simpa using h1
    have := count_set listed.toList i h3
    rw [Array.toList_setIfInBounds]
    omega
end
section
variable {B lo0 : Nat} {m : Match} {w : World} {P : Program}
theorem below_all {M : Match} {n : Nat} (h : ∀ r p, M r = some p → r < n) : below M n = M := by
  funext r
  unfold below
  split
  · rfl
  · rename_i hn
    cases hm : M r with
    | none => rfl
    | some p => exact absurd (h r p hm) hn
end
section
variable [Maps] {B lo0 : Nat} {E : Env}
variable {call : Caller} {ops : Array Oper} {infos : List Info} {size : Nat} {T : Nat → Tr Value} {H : Nat → Heap} {v : Nat → Value} {wt : Nat → Bool}
variable {m : Match} {w₀ : World} {a₀ : Act}
theorem Inv.start (hS : Setup E call ops infos size T H v wt) {w : World} {a : Act} (hR : Rel B lo0 m (H 0) w) (ht : TRel m (T 0) a.tmps) (hs : a.tmps.size = size) :
    Inv E call ops infos size T H v wt B lo0 m w a (SOf ops.size (Array.replicate ops.size false)) 0 m a w := by
  have hno : ∀ j, ¬ SOf ops.size (Array.replicate ops.size false) j := fun j h => by
    have h1 := h.2
    rw [Array.getD_eq_getD_getElem?, Array.getElem?_replicate, if_pos h.1] at h1
    simp at h1
  refine ⟨fun j h => absurd h (hno j), fun i j h => absurd h (hno i), Nat.zero_le _, fun e o _ _ => ⟨fun h => absurd h (hno e), fun h => by omega⟩, fun j o _ _ h => by omega, ?_, ?_, fun j r p _ h => absurd h (hno j), fun l o _ _ h => by omega, hs, fun t k hk hw u hu => ?_, fun t _ => rfl, rfl⟩
  · exact ⟨m.le_refl, fun r p hr => .inl ⟨hr, (hR.dom r p hr).1⟩, fun r p hr hn => (by rw [hr] at hn; cases hn), fun b _ _ => rfl, Nat.le_refl _, rfl, rfl⟩
  · refine (RelK.of_rel hR).anti (fun u r p o hm hk => ?_) (fun g l h => h)
    rcases hk with ⟨rfl, h1, h2⟩ | ⟨j, _, _, h3, _⟩
    · exact ⟨_, Nat.le_refl _, rfl, h2⟩
    · exact absurd h3 (hno j)
  · have htl := hS.tlt k hk t u hu
    rw [hS.same htl (Nat.zero_le k) hk fun j o _ h1 ho hd => hno j ((hw j o ho hd).2 h1)] at hu
    obtain ⟨u', h1, h2⟩ := ht t u hu
    refine ⟨u', h1, h2.mono fun r p hr => below_iff.2 ⟨Nat.lt_of_lt_of_le (hR.dom r p hr).1 (hS.mono (Nat.zero_le k) hk), hr⟩⟩
theorem Setup.lowAll (hS : Setup E call ops infos size T H v wt) : ∀ i, i ≤ ops.size → Low (H 0) (H i)
  | 0, _ => .refl _
  | i + 1, h => by
    obtain ⟨o, ho⟩ := op_at (ops := ops) (i := i) (by omega)
    exact (hS.lowAll i (by omega)).trans (hS.low2 ho)
theorem Inv.finish (hS : Setup E call ops infos size T H v wt) {c : Nat} {M : Match} {a : Act} {w : World} (hlo : lo0 ≤ (H 0).lo) (I : Inv E call ops infos size T H v wt B lo0 m w₀ a₀ (fun j => j < ops.size) c M a w) :
    Good B lo0 m (H 0) w₀ M (H ops.size) w ∧ TRel M (T ops.size) a.tmps := by
  have hlt : ∀ r p, M r = some p → r < (H ops.size).next := fun r p hr => by
    rcases I.out.dom r p hr with ⟨_, h⟩ | ⟨_, j, h1, h2, h3⟩
    · exact Nat.lt_of_lt_of_le h (hS.mono (Nat.zero_le _) (Nat.le_refl _))
    · exact Nat.lt_of_lt_of_le h3 (hS.mono h1 (Nat.le_refl _))
  have hls := hS.lows ops.size (Nat.le_refl _)
  have hno : ∀ (e : Nat) (p : Oper), c ≤ e → ops[e]? = some p → ¬ isEff p := fun e p h1 hp hpe => by
    have := (I.eff e p hp hpe).1 (op_lt hp)
    omega
  have hR : Rel B lo0 (below M (H ops.size).next) (H ops.size) w := by
    refine I.rk.rel (by omega) hls.2.1 (Nat.le_refl _) (fun r p x hm hr hx => ?_) (fun g l hl => ?_)
    · have := I.trace hS (ops.size - c) (by have := I.cN; omega) (fun e p h1 h2 hp hpe => absurd hpe (hno e p h1 hp)) r p x hm (by rw [show c + (ops.size - c) = ops.size by have := I.cN; omega]; exact hr) (by rw [show c + (ops.size - c) = ops.size by have := I.cN; omega]; exact hx)
      rwa [show c + (ops.size - c) = ops.size by have := I.cN; omega] at this
    · have := I.grps hS (ops.size - c) (by have := I.cN; omega) (fun e p h1 h2 hp hpe => absurd hpe (hno e p h1 hp))
      rw [show c + (ops.size - c) = ops.size by have := I.cN; omega] at this
      rwa [this] at hl
  rw [below_all hlt] at hR
  have hlow := hS.lowAll ops.size (Nat.le_refl _)
  refine ⟨⟨I.out.le, hR, fun r p hr => ?_, I.out.blk, hls.2.2, hls.1, I.out.frame, I.out.size, hlow.low, I.out.os⟩, fun t u hu => ?_⟩
  · rcases I.out.dom r p hr with ⟨h, _⟩ | ⟨h0, j, h1, h2, _⟩
    · exact .inl h
    · exact .inr ⟨h0, Nat.le_trans (hS.mono (Nat.zero_le j) (Nat.le_of_lt h1)) h2⟩
  · obtain ⟨u', h1, h2⟩ := I.tmps t ops.size (Nat.le_refl _) (fun j o ho _ => ⟨fun h => h, fun h => h⟩) u hu
    exact ⟨u', h1, h2.mono (below_le _ _)⟩
theorem draw_sim (hE : EnvOk E) {call : Caller} (hc : ∀ B lo0, CallSim B lo0 E call) (hcl : CallLow call) {id : Nat} {ops : Array Oper} {fr : Fr} {m : Match} {H : Heap} {w : World} {T' : Tr Value} {H' : Heap} {a : Act} {ro : Option Nat} (hR : Rel B lo0 m H w) (hf : FrRel m fr a ro)
    (h : drawV E call ops fr.size fr.T H = some (T', H')) :
    (Code.region id ops true).wpIn (fenceOf ro) 0 E.P (RunPost B lo0 m H w (.region id ops true) a ro .normal { T := T', size := fr.size, marks := fr.marks, round := fr.round } H') a w := by
  unfold drawV at h
  obtain ⟨h1, h⟩ := bne_cond h
  simp only [Option.bind_eq_some_iff] at h
  obtain ⟨infos, h2, r, h3, h4⟩ := h
  obtain ⟨h5, h6⟩ := beq_cond h4
  simp only [Option.some.injEq] at h6
  subst h6
  obtain ⟨hst, hgc⟩ := infosOf_inv h2
  obtain ⟨Tf, Hf, vf, wf, e1, e2, e3, e4, e5⟩ := text_of h3
  simp only [Array.length_toList] at e3 e4
  have hS : Setup E call ops infos fr.size Tf Hf vf wf := {
    env := hE, low := hcl, stat := hst, text := e5, lo := by rw [e2]; exact hR.nxt,
    tm := fun t u hu => by
      rw [e1] at hu
      obtain ⟨u', h7, _⟩ := hf.tmps t u hu
      rw [← hf.size]
      exact (Array.getElem?_eq_some_iff.1 h7).1
    size := by
      simp only [Bool.not_eq_false'] at h1
      exact h1
    next := by rw [e4]; exact h5 }
  have hg0 : Good B lo0 m H w m H { w with drawn := w.drawn + 1 } := Good.same hR rfl ⟨rfl, rfl⟩
  have hR0 : Rel B lo0 m (Hf 0) { w with drawn := w.drawn + 1 } := by rw [e2]; exact hg0.rel
  have I0 := Inv.start hS hR0 (by rw [e1]; exact hf.tmps) hf.size
  have hl0 : lo0 ≤ (Hf 0).lo := by rw [e2]; exact hR.lo
  have hcnt : (Array.replicate ops.size false).toList.count false ≤ ops.size := by simp
  have hpost : ∀ c M a' w', Inv E call ops infos fr.size Tf Hf vf wf B lo0 m { w with drawn := w.drawn + 1 } a (fun j => j < ops.size) c M a' w' →
      RunPost B lo0 m H w (.region id ops true) a ro .normal { T := T', size := fr.size, marks := fr.marks, round := fr.round } H' .normal a' w' := fun c M a' w' I => by
    obtain ⟨h7, h8⟩ := I.finish hS hl0
    rw [e2, e4] at h7
    rw [e3] at h8
    have hg := hg0.trans h7
    refine ⟨rfl, M, hg, ⟨h8, I.tsize, by rw [I.defers]; exact hf.marks.mono hg.le, hf.round⟩, fun t ht => I.keep t fun j o ho hd => ht ?_⟩
    simp only [writesOf, List.mem_filterMap]
    exact ⟨o, List.mem_of_getElem? (op_list ho), hd⟩
  have hany : ∀ (md : Region.Mode), (∀ listed : Array Bool, Region.ready md ops listed = [] → listed.size = ops.size → ∀ i, i < ops.size → listed.getD i true = true) → ∀ t,
      wpOpsIn (fenceOf ro) 0 E.P ops (RunPost B lo0 m H w (.region id ops true) a ro .normal { T := T', size := fr.size, marks := fr.marks, round := fr.round } H') (Region.linearise md ops t) a { w with drawn := w.drawn + 1 } := fun md hall t =>
    wpAnyIn_sound ops.size t _ a _ (any_order hS (hc B lo0) hl0 hall hpost ops.size _ (by simp) hcnt 0 m a _ I0)
  have hrk : ∀ (md : Region.Mode), (md = .any ∨ md = .text) → ∀ (i : Nat) (o : Oper) (e : Edge), ops[i]? = some o → e ∈ o.after → Region.binds md e = true → e.on < ops.size ∧ e.on < i := fun md hmd i o e ho he hb => by
    rcases hst.edge i o e ho he with h | ⟨⟨rr, h⟩, _⟩
    · have := op_lt ho
      exact ⟨by omega, h⟩
    · rcases hmd with rfl | rfl <;> simp [Region.binds, h] at hb
  refine wpIn_region_draw fun t => ?_
  unfold Region.schedule
  split
  · exact hany .any (fun listed hr hs => all_listed (fun i => i) (hrk .any (.inl rfl)) hr hs) t
  · split
    · exact hany .text (fun listed hr hs => all_listed (fun i => i) (hrk .text (.inr rfl)) hr hs) _
    · exact hany .gc (fun listed hr hs => gcOk_inv hr hs 20 0 hgc fun j hj => by simp at hj) _
end
end Go.AM

