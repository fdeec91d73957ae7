/-
  An abstract machine for the programs of this model, and that what it tells the model comes to: ranges, runs, calls known ahead.
-/
import Derived.Test.YtbpneihjlledpaaGreatDoorAMb
import Derived.LoopNIn
import Derived.TacticsIn
import Derived.Maps.RangeRun
set_option linter.unusedSimpArgs false
set_option linter.unusedVariables false
set_option linter.unusedSectionVars false
namespace Go.AM
section
theorem seen_of_left {es : Array MapEntry} {seen : Array Nat} (h : (leftOf es seen).size = 0) {e : MapEntry} (he : e ∈ es.toList) : e.born ∈ seen.toList := by
  cases hc : seen.contains e.born with
  | true => exact Array.mem_toList_iff.2 (by simpa using hc)
  | false =>
    have : e ∈ leftOf es seen := Array.mem_filter.2 ⟨Array.mem_toList_iff.1 he, by rw [hc]; rfl⟩
    have := Array.size_pos_of_mem this
    omega
theorem VRel.of_plain1 {m m' : Match} {v v' : Value} (h : plain1 v = true) (hv : VRel m v v') : VRel m' v v' := by
  cases hv <;> first | (simp [plain1] at h; done) | constructor
variable [Maps] {B lo0 : Nat} {m : Match} {H : Heap} {w : World} {E : Env}
end
section
variable {B lo0 : Nat} {m : Match} {w : World} {P : Program}
theorem eqNats_eq : ∀ {a b : List Nat}, eqNats a b = true → a = b
  | [], [], _ => rfl
  | x :: a, y :: b, h => by
    simp only [eqNats, Bool.and_eq_true, Nat.beq_eq] at h
    rw [h.1, eqNats_eq h.2]
  | [], _ :: _, h => by simp [eqNats] at h
  | _ :: _, [], h => by simp [eqNats] at h
theorem MRel.back {m m' : Match} (h : m.le m') : ∀ {rs : List Nat} {ds ds' : List Deferred}, MRel m rs ds → MRel m' rs ds' → MRel m rs ds'
  | [], [], [], _, _ => trivial
  | _ :: _, _ :: _, _ :: _, ⟨⟨p, h1, _⟩, h3⟩, ⟨⟨q, h4, h5⟩, h6⟩ => by
    have := h _ _ h1
    rw [h4] at this
    cases this
    exact ⟨⟨p, h1, h5⟩, h3.back h h6⟩
end
section
variable [Maps] {B lo0 : Nat} {m : Match} {H : Heap} {w : World} {E : Env}
theorem dropAll_get {v : Value} {t : Tmp} : ∀ {l : List Tmp} {T : Tr Value}, (dropAll l T).get t = some v → t ∉ l ∧ T.get t = some v
  | [], T, h => ⟨by simp, h⟩
  | x :: l, T, h => by
    obtain ⟨h1, h2⟩ := dropAll_get (l := l) h
    obtain ⟨h3, h4⟩ := Tr.get_del h2
    exact ⟨by simp [h1, h3], h4⟩
theorem Rel.hold (hR : Rel B lo0 m H w) {H' : Heap} {w' : World} (hsz : w.heap.size ≤ w'.heap.size) (hq : ∀ b, b < B → w'.heap[b]? = w.heap[b]?) (hb : ∀ r p o, m r = some p → H'.objs.get r = some o → w'.heap[p.blk]? = w.heap[p.blk]?)
    (hsub : ∀ r o, H'.objs.get r = some o → H.objs.get r = some o) (hg : H'.grps = H.grps) (hn : H'.next = H.next) (hl : lo0 ≤ H'.lo) (hl' : H'.lo ≤ H.next) : Rel B lo0 m H' w' where
  base := Nat.le_trans hR.base hsz
  glo := hR.globs hq
  lo := hl
  nxt := by rw [hn]; exact hl'
  dom r p h := by obtain ⟨a, b, c, d⟩ := hR.dom r p h; exact ⟨by rw [hn]; exact a, Nat.lt_of_lt_of_le b hsz, c, d⟩
  obj r p o h ho := (hR.obj r p o h (hsub r o ho)).mono m.le_refl (hb r p o h ho)
  sep r r' p p' o o' hne hlo h h' ho ho' he := hR.sep r r' p p' o o' hne hlo h h' (hsub _ _ ho) (hsub _ _ ho') he
  tip r r' p p' c c' g z z' h h' ho ho' := hR.tip r r' p p' c c' g z z' h h' (hsub _ _ ho) (hsub _ _ ho')
  old r p c g z h ho l hgl := hR.old r p c g z h (hsub _ _ ho) l (by rw [← hg]; exact hgl)
  ends r r' p p' c c' g z z' t h h' ho ho' he := hR.ends r r' p p' c c' g z z' t h h' (hsub _ _ ho) (hsub _ _ ho') he
  grp r p c g z t h ho := by rw [hn]; exact hR.grp r p c g z t h (hsub _ _ ho)
theorem runHead_sim (hE : EnvOk E) (hO : OrcOk E) {run : Code → Fr → Heap → Option (Ex × Fr × Heap)} (hrun : CodeSim E run) {it : Operand} {v v' : Value} {w₁ : World} : ∀ (c : Code), headNext c = some it →
    ∀ (fr : Fr) (H : Heap) (ex : Ex) (fr' : Fr) (H' : Heap) (m : Match) (a : Act) (w : World) (ro : Option Nat), runHead E run v c fr H = some (ex, fr', H') → (∀ ty, (Instr.next (a.eval it) false ty).run E.P w = .ok v' w₁) → Rel B lo0 m H w₁ → VRel m v v' → FrRel m fr a ro →
    c.wpIn (fenceOf ro) 0 E.P (RunPost B lo0 m H w₁ c a ro ex fr' H') a w := by
  intro c
  induction c with
  | seq x y ihx ihy =>
    intro hi fr H ex fr' H' m a w ro h hn hR hv hf
    simp only [runHead, Option.bind_eq_some_iff] at h
    obtain ⟨⟨ex₁, fr₁, H₁⟩, h1, h2⟩ := h
    refine wpIn_seq (Go.wpIn_mono (ihx hi fr H _ _ _ m a w ro h1 hn hR hv hf) fun e a₁ w₂ ⟨he, m₁, hg, hf₁, ht⟩ => ?_)
    subst he
    by_cases hex : ex₁ = .normal
    · subst hex
      refine Go.wpIn_mono (hrun y fr₁ H₁ _ _ _ h2 B lo0 m₁ a₁ w₂ ro hg.rel hf₁) fun e a' w' ⟨h5, m', h6, h7, h8⟩ => ?_
      exact ⟨h5, m', hg.trans h6, h7, fun t h' => (h8 t fun h => h' (by simp [writesOf, h])).trans (ht t fun h => h' (by simp [writesOf, h]))⟩
    · have h3 : ex₁ = ex ∧ fr₁ = fr' ∧ H₁ = H' := by cases ex₁ <;> simp_all
      obtain ⟨rfl, rfl, rfl⟩ := h3
      have : RunPost B lo0 m H w₁ (.seq x y) a ro ex₁ fr₁ H₁ ex₁.to a₁ w₂ := ⟨rfl, m₁, hg, hf₁, fun t h' => ht t fun h => h' (by simp [writesOf, h])⟩
      cases ex₁ with
      | normal => exact absurd rfl hex
      | _ => exact this
  | region id ops draw =>
    intro hi fr H ex fr' H' m a w ro h hn hR hv hf
    cases draw with
    | true => simp [headNext] at hi
    | false =>
      simp only [headNext] at hi
      simp only [runHead] at h
      cases hl : ops.toList with
      | nil => rw [hl] at h; simp at h
      | cons o rest =>
        rw [hl] at h hi
        simp only [Option.bind_eq_some_iff, Option.some.injEq, Prod.mk.injEq] at h
        obtain ⟨T, h1, ⟨T', H₁⟩, h2, rfl, rfl, rfl⟩ := h
        have ho : ops[0]? = some o := by rw [← Array.getElem?_toList, hl]; rfl
        have hop : o.op = .next it false ∧ o.guard = none := by
          simp only at hi
          split at hi
          · rename_i it' h5 h6
            simp only [Option.some.injEq] at hi
            subst hi
            exact ⟨h5, h6⟩
          · simp at hi
        apply wpIn_region
        have hsz : ops.size = rest.length + 1 := by rw [← Array.length_toList, hl]; rfl
        rw [List.range_eq_range', hsz, List.range'_succ]
        have hw : Region.wanted o (yielded ops a.tmps) = true := by simp [Region.wanted, hop.2]
        simp only [wpOpsIn, ho, hw, if_true]
        refine ⟨about_fn, ?_⟩
        rw [Oper.semAt_eq _ _ _ (fun c hc => by rw [hop.1] at hc; cases hc)]
        have hrn : (execOp a.eval o).run E.P w = .ok (.value v') w₁ := by
          simp only [execOp, hop.1, Sem.run_bind, hn, Result.andThen_ok, Sem.run_pure]
        rw [hrn, Oper.uponIn_value]
        obtain ⟨p1, p2, p3, p4⟩ := putT_rel (a := a) h1 hf.tmps hf.size hv
        refine exOps_sim hE (callWith_sim hE hO hrun) rest (0 + 1) (fun j => by rw [← Array.getElem?_toList, hl, show 0 + 1 + j = j + 1 by omega]; simp) T H T' H₁ _ w₁ m (by rw [hl]; exact h2) hR p1 p2 fun a' w' m' hg q1 q2 q3 q4 => ?_
        refine ⟨rfl, m', hg, ⟨q1, q2, by rw [q3, p3]; exact hf.marks.mono hg.le, hf.round⟩, fun t ht => ?_⟩
        have hin : ∀ o' ∈ ops.toList, o'.dst ≠ some t := fun o' ho' hd => ht (by
          simp only [writesOf, List.mem_filterMap]
          exact ⟨o', ho', hd⟩)
        rw [hl] at hin
        exact (q4 t fun o' ho' => hin o' (List.mem_cons_of_mem _ ho')).trans (p4 t (hin o (List.mem_cons_self ..)))
  | _ => intro hi; simp [headNext] at hi
theorem Rel.other (hR : Rel B lo0 m H w) {r : Nat} {p : Spot} {o o' : AObj} (hm : m r = some p) (hr : lo0 ≤ r) (ho : H.objs.get r = some o) (hno : ∀ c g t, o ≠ .row c g t) (hno' : ∀ c g t, o' ≠ .row c g t) {H' : Heap} {w' : World}
    (hsz : w.heap.size ≤ w'.heap.size) (hb : ∀ b, b < w.heap.size → b ≠ p.blk → w'.heap[b]? = w.heap[b]?) (hobj : ObjRel (decide (lo0 ≤ r)) m p w' o') (hget : ∀ j x, H'.objs.get j = some x → (j = r ∧ x = o') ∨ (j ≠ r ∧ H.objs.get j = some x))
    (hg : H'.grps = H.grps) (hn : H'.next = H.next) (hl : lo0 ≤ H'.lo) (hl' : H'.lo ≤ H.next) : Rel B lo0 m H' w' where
  base := Nat.le_trans hR.base hsz
  glo := hR.globs fun b hlt => hb b (Nat.lt_of_lt_of_le hlt hR.base) fun e => by have := (hR.dom r p hm).2.2.1 hr; omega
  lo := hl
  nxt := by rw [hn]; exact hl'
  dom j q h := by obtain ⟨a, b, c, d⟩ := hR.dom j q h; exact ⟨by rw [hn]; exact a, Nat.lt_of_lt_of_le b hsz, c, d⟩
  obj j q x h hx := by
    rcases hget j x hx with ⟨rfl, rfl⟩ | ⟨hj, hx⟩
    · rw [hm] at h; cases h; exact hobj
    · refine (hR.obj j q x h hx).mono m.le_refl (hb _ (hR.dom j q h).2.1 fun hbb => ?_)
      have := hR.sep r j p q o x (Ne.symm hj) hr hm h ho hx hbb.symm
      cases o <;> first | (exact absurd rfl (hno _ _ _)) | simp [Mates] at this
  sep j j' q q' x x' hne hlj h h' hx hx' he := by
    rcases hget j x hx with ⟨rfl, rfl⟩ | ⟨hj, hx⟩ <;> rcases hget j' x' hx' with ⟨rfl, rfl⟩ | ⟨hj', hx'⟩
    · exact absurd rfl hne
    · have := hR.sep j j' q q' o x' hne hr h h' ho hx' he
      cases o <;> first | (exact absurd rfl (hno _ _ _)) | simp [Mates] at this
    · have := hR.sep j' j q' q o x (Ne.symm hne) hr h' h ho hx he.symm
      cases o <;> first | (exact absurd rfl (hno _ _ _)) | simp [Mates] at this
    · exact hR.sep j j' q q' x x' hne hlj h h' hx hx' he
  tip j j' q q' c c' g z z' h h' hx hx' := by
    rcases hget j _ hx with ⟨_, h1⟩ | ⟨_, hx⟩
    · exact absurd h1.symm (hno' _ _ _)
    · rcases hget j' _ hx' with ⟨_, h1⟩ | ⟨_, hx'⟩
      · exact absurd h1.symm (hno' _ _ _)
      · exact hR.tip j j' q q' c c' g z z' h h' hx hx'
  old j q c g z h hx l hgl := by
    rcases hget j _ hx with ⟨_, h1⟩ | ⟨_, hx⟩
    · exact absurd h1.symm (hno' _ _ _)
    · exact hR.old j q c g z h hx l (by rw [← hg]; exact hgl)
  ends j j' q q' c c' g z z' t h h' hx hx' he := by
    rcases hget j _ hx with ⟨_, h1⟩ | ⟨_, hx⟩
    · exact absurd h1.symm (hno' _ _ _)
    · rcases hget j' _ hx' with ⟨_, h1⟩ | ⟨_, hx'⟩
      · exact absurd h1.symm (hno' _ _ _)
      · exact hR.ends j j' q q' c c' g z z' t h h' hx hx' he
  grp j q c g z t h hx := by
    rcases hget j _ hx with ⟨_, h1⟩ | ⟨_, hx⟩
    · exact absurd h1.symm (hno' _ _ _)
    · rw [hn]; exact hR.grp j q c g z t h hx
theorem plainsOf_mem {T : Tr Value} {p : Tmp × Value} : ∀ {l : List Tmp}, p ∈ plainsOf T l → T.get p.1 = some p.2 ∧ plain1 p.2 = true ∧ p.1 ∈ l
  | [], h => by simp [plainsOf] at h
  | d :: l, h => by
    unfold plainsOf at h
    split at h
    · rename_i v hv
      cases hp : plain1 v with
      | true =>
        rw [hp, cond_true, List.mem_cons] at h
        rcases h with rfl | h
        · exact ⟨hv, hp, List.mem_cons_self ..⟩
        · obtain ⟨h1, h2, h3⟩ := plainsOf_mem h; exact ⟨h1, h2, List.mem_cons_of_mem _ h3⟩
      | false =>
        rw [hp, cond_false] at h
        obtain ⟨h1, h2, h3⟩ := plainsOf_mem h; exact ⟨h1, h2, List.mem_cons_of_mem _ h3⟩
    · obtain ⟨h1, h2, h3⟩ := plainsOf_mem h; exact ⟨h1, h2, List.mem_cons_of_mem _ h3⟩
theorem alsoIn_mem {T : Tr Value} {p : Tmp × Value} : ∀ {l : List (Tmp × Value)}, p ∈ alsoIn T l → T.get p.1 = some p.2 ∧ p ∈ l
  | [], h => by simp [alsoIn] at h
  | q :: l, h => by
    unfold alsoIn at h
    split at h
    · rename_i v hv
      cases hp : same1 q.2 v with
      | true =>
        rw [hp, cond_true, List.mem_cons] at h
        rcases h with rfl | h
        · exact ⟨by rw [hv, same1_eq hp], List.mem_cons_self ..⟩
        · obtain ⟨h1, h2⟩ := alsoIn_mem h; exact ⟨h1, List.mem_cons_of_mem _ h2⟩
      | false =>
        rw [hp, cond_false] at h
        obtain ⟨h1, h2⟩ := alsoIn_mem h; exact ⟨h1, List.mem_cons_of_mem _ h2⟩
    · obtain ⟨h1, h2⟩ := alsoIn_mem h; exact ⟨h1, List.mem_cons_of_mem _ h2⟩
theorem setAll_get {t : Tmp} {v : Value} : ∀ {l : List (Tmp × Value)} {T : Tr Value}, (setAll l T).get t = some v → (t, v) ∈ l ∨ T.get t = some v
  | [], T, h => .inr h
  | p :: l, T, h => by
    rcases setAll_get (l := l) h with h | h
    · exact .inl (List.mem_cons_of_mem _ h)
    · rcases Tr.get_set h with ⟨h1, h2⟩ | ⟨_, h2⟩
      · exact .inl (by rw [h1, h2]; exact List.mem_cons_self ..)
      · exact .inr h2
def RoundAt (E : Env) (run : Code → Fr → Heap → Option (Ex × Fr × Heap)) (c : Code) (fr : Fr) (H : Heap) (r : Nat) (mm : Option Nat) (n i : Nat) (e : Value × Value) (ex : Ex) (fr' : Fr) : Prop :=
  ∃ H', runHead E run (.tuple #[.bool true, e.1, e.2]) c fr { objs := (H.setObj r (.iter mm n (.told i))).objs, grps := H.grps, next := H.next, lo := H.next } = some (ex, fr', H') ∧ fr'.marks = fr.marks ∧ fr'.size = fr.size
theorem roundsV_inv {run : Code → Fr → Heap → Option (Ex × Fr × Heap)} {c : Code} {fr : Fr} {r : Nat} {mm : Option Nat} {n : Nat} : ∀ {es : List (Value × Value)} {i : Nat} {acc o : Option (List (Tmp × Value))}, roundsV E run c fr H r mm n es i acc = some o →
    (∀ l, acc = some l → ∀ p ∈ l, plain1 p.2 = true ∧ p.1 ∈ writesOf c) →
    (∀ l, acc = some l → ∃ vs, o = some vs ∧ ∀ p ∈ vs, p ∈ l) ∧ (∀ vs, o = some vs → ∀ p ∈ vs, plain1 p.2 = true ∧ p.1 ∈ writesOf c) ∧
    (∀ k e, es[k]? = some e → ∃ ex fr', RoundAt E run c fr H r mm n (i + k) e ex fr' ∧ (ex = .normal ∨ ex = .ret ∧ ∃ vs, o = some vs ∧ ∀ p ∈ vs, fr'.T.get p.1 = some p.2)) ∧
    (acc = none → ∀ vs, o = some vs → ∃ k e fr', es[k]? = some e ∧ RoundAt E run c fr H r mm n (i + k) e .ret fr')
  | [], i, acc, o, h, ha => by
    simp only [roundsV, Option.some.injEq] at h
    subst h
    exact ⟨fun l hl => ⟨l, hl, fun p hp => hp⟩, ha, fun k e he => by simp at he, fun h1 vs h2 => by rw [h1] at h2; cases h2⟩
  | x :: es, i, acc, o, h, ha => by
    simp only [roundsV] at h
    split at h
    · rename_i ex fr' H' hrun
      obtain ⟨k0, h⟩ := beq_cond h
      simp only [Bool.and_eq_true] at k0
      have hx : RoundAt E run c fr H r mm n i x ex fr' := ⟨H', hrun, eqNats_eq k0.1, by simpa using k0.2⟩
      split at h
      · obtain ⟨h1, h2, h3, h4⟩ := roundsV_inv h ha
        refine ⟨h1, h2, fun k e he => ?_, fun hn vs hv => ?_⟩
        · cases k with
          | zero => simp only [List.getElem?_cons_zero, Option.some.injEq] at he; subst he; exact ⟨_, _, hx, .inl rfl⟩
          | succ k => rw [show i + (k + 1) = i + 1 + k by omega]; exact h3 k e (by simpa using he)
        · obtain ⟨k, e, fr2, h5, h6⟩ := h4 hn vs hv
          exact ⟨k + 1, e, fr2, by simpa using h5, by rw [show i + (k + 1) = i + 1 + k by omega]; exact h6⟩
      · have hT : ∀ l : List (Tmp × Value), some (accRet fr'.T (writesOf c) acc) = some l → ∀ p ∈ l, fr'.T.get p.1 = some p.2 ∧ plain1 p.2 = true ∧ p.1 ∈ writesOf c := by
          intro l hl p hp
          simp only [Option.some.injEq] at hl
          subst hl
          cases acc with
          | none => exact plainsOf_mem hp
          | some l => obtain ⟨h1, h2⟩ := alsoIn_mem hp; exact ⟨h1, ha l rfl p h2⟩
        obtain ⟨h1, h2, h3, h4⟩ := roundsV_inv h fun l hl p hp => (hT l hl p hp).2
        obtain ⟨vs, hvs, hsub⟩ := h1 _ rfl
        refine ⟨fun l hl => ⟨vs, hvs, fun p hp => ?_⟩, h2, fun k e he => ?_, fun hn vs hv => ⟨0, x, fr', rfl, hx⟩⟩
        · have := hsub p hp
          rw [hl] at this
          exact (alsoIn_mem this).2
        · cases k with
          | zero =>
            simp only [List.getElem?_cons_zero, Option.some.injEq] at he
            subst he
            exact ⟨_, _, hx, .inr ⟨rfl, vs, hvs, fun p hp => (hT _ rfl p (hsub p hp)).1⟩⟩
          | succ k => rw [show i + (k + 1) = i + 1 + k by omega]; exact h3 k e (by simpa using he)
      · simp at h
    · simp at h
theorem FrRel.dropped {fr : Fr} {a a' : Act} {ro : Option Nat} {c : Code} (hf : FrRel m fr a ro) (ht : ∀ t, t ∉ writesOf c → a'.tmps[t]? = a.tmps[t]?) (hs : a'.tmps.size = fr.size) (hm : MRel m fr.marks a'.defers) :
    FrRel m { T := dropAll (writesOf c) fr.T, size := fr.size, marks := fr.marks, round := fr.round } a' ro := by
  refine ⟨fun t v hv => ?_, hs, hm, hf.round⟩
  obtain ⟨h1, h2⟩ := dropAll_get hv
  obtain ⟨v', h3, h4⟩ := hf.tmps t v h2
  exact ⟨v', (ht t h1).trans h3, h4⟩
theorem mapLoop_sim (hE : EnvOk E) (hO : OrcOk E) {run : Code → Fr → Heap → Option (Ex × Fr × Heap)} (hrun : CodeSim E run) {c : Code} {it : Operand} {fr fr' : Fr} {ex : Ex} {H' : Heap} {a : Act} {ro : Option Nat} (hR : Rel B lo0 m H w) (hf : FrRel m fr a ro)
    (hi : headNext c = some it) (h : mapLoop E run c it fr H = some (ex, fr', H')) : (Code.loop c).wpIn (fenceOf ro) 0 E.P (RunPost B lo0 m H w (.loop c) a ro ex fr' H') a w := by
  unfold mapLoop at h
  simp only [Tr.force_eq, Option.bind_eq_some_iff] at h
  obtain ⟨itv, h1, h⟩ := h
  split at h
  · rename_i r
    split at h
    · rename_i mm n hobj
      simp only [Option.bind_eq_some_iff] at h
      obtain ⟨es, h2, h⟩ := h
      obtain ⟨k, h⟩ := bne_cond h
      simp only [Option.bind_eq_some_iff] at h
      obtain ⟨o, hrounds, h⟩ := h
      simp only [Bool.or_eq_false_iff, Bool.not_eq_false', Nat.ble_eq, Nat.beq_eq] at k
      obtain ⟨hlen, hlo⟩ := k
      obtain ⟨_, hplain, hrnd, hsome⟩ := roundsV_inv hrounds fun l hl => by cases hl
      have hexn : ex ≠ .normal := by
        intro hx
        subst hx
        cases o with
        | some vs => simp at h
        | none =>
          simp only [Option.bind_eq_some_iff] at h
          obtain ⟨⟨ex₁, fr₁, H₁⟩, _, h3⟩ := h
          cases ex₁ <;> simp at h3
      have hlo0 : lo0 ≤ r := Nat.le_trans hR.lo hlo
      have hev : ∀ a' : Act, FrRel m { T := dropAll (writesOf c) fr.T, size := fr.size, marks := fr.marks, round := fr.round } a' ro → ∃ p, m r = some p ∧ a'.eval it = .pointer (some ⟨p.blk, p.base + 0, none⟩) := fun a' hf' => by
        have := ev_rel hf'.tmps h1
        generalize a'.eval it = z at this
        cases this with
        | ptr hm => exact ⟨_, hm, rfl⟩
      have hf0 := hf.dropped (a' := a) (c := c) (fun _ _ => rfl) hf.size hf.marks
      obtain ⟨p, hm, _⟩ := hev a hf0
      have hIt : IterRel m p mm n .start w := hR.obj r p _ hm hobj
      obtain ⟨hbase, mm', seen0, hblk0, hmm, rfl⟩ := hIt
      have hplt := (hR.dom r p hm).2.1
      -- what stands at the head of each round
      let I : Act → World → Prop := fun a' w' => (∃ seen, w'.heap[p.blk]? = some (.mapIter mm' n seen n)) ∧ (∀ b, b < w.heap.size → b ≠ p.blk → w'.heap[b]? = w.heap[b]?) ∧ w.heap.size ≤ w'.heap.size ∧ (w'.os = w.os ∧ w'.output = w.output) ∧
        FrRel m { T := dropAll (writesOf c) fr.T, size := fr.size, marks := fr.marks, round := fr.round } a' ro ∧ (∀ t, t ∉ writesOf c → a'.tmps[t]? = a.tmps[t]?) ∧
        ∀ seen lst, w'.heap[p.blk]? = some (.mapIter mm' n seen lst) → ∀ i ∈ seen.toList, ∀ e, es[i]? = some e → ∃ fr2, RoundAt E run c { T := dropAll (writesOf c) fr.T, size := fr.size, marks := fr.marks, round := fr.round } H r mm n i e .normal fr2
      have hdel : ∀ w', (∀ b, b < w.heap.size → b ≠ p.blk → w'.heap[b]? = w.heap[b]?) → w.heap.size ≤ w'.heap.size → Rel B lo0 m { objs := H.objs.del r, grps := H.grps, next := H.next, lo := H.lo } w' := fun w' hb hs => by
        refine hR.hold hs (fun b hlt => hb b (Nat.lt_of_lt_of_le hlt hR.base) fun e => by have := (hR.dom r p hm).2.2.1 hlo0; omega) (fun j q x hj hx => hb _ (hR.dom j q hj).2.1 fun hbb => ?_) (fun j x hx => (Tr.get_del hx).2) rfl rfl hR.lo hR.nxt
        have hx' := Tr.get_del hx
        have := hR.sep r j p q _ x (Ne.symm hx'.1) hlo0 hm hj hobj hx'.2 hbb.symm
        exact this
      -- the end
      have hfin : o = none → ∀ a' w', I a' w' → (∀ ty, (Instr.next (a'.eval it) false ty).run E.P w' = .ok (.tuple #[.bool false]) w') → c.wpIn (fenceOf ro) 0 E.P (Exit.then (fun _ _ => False) (RunPost B lo0 m H w (.loop c) a ro ex fr' H')) a' w' := by
        rintro rfl a' w' ⟨_, hb, hs, hos, hf', ht, _⟩ hn
        simp only [Option.bind_eq_some_iff] at h
        obtain ⟨⟨ex₁, fr₁, H₁⟩, hend, h3⟩ := h
        have hex : ex₁ = ex ∧ fr₁ = fr' ∧ H₁ = H' := by cases ex₁ <;> simp_all
        obtain ⟨rfl, rfl, rfl⟩ := hex
        have hRd := hdel w' hb hs
        have g0 : Good B lo0 m H w m { objs := H.objs.del r, grps := H.grps, next := H.next, lo := H.lo } w' := ⟨m.le_refl, hRd, fun _ _ h => .inl h, fun r p h h' => (by rw [h] at h'; cases h'), Nat.le_refl _, rfl,
          fun b hb' hne => hb b hb' fun hbb => hne r p hm hlo hbb.symm, hs, fun j x _ hx => (Tr.get_del hx).2, hos⟩
        refine Go.wpIn_mono (runHead_sim hE hO hrun c hi _ _ _ _ _ m a' w' ro hend hn hRd (.tuple rfl (fun i v v' h h' => ?_)) hf') fun e a₁ w₁ ⟨he, m₁, hg, hf₁, ht₁⟩ => ?_
        · have h' : (#[Value.bool false] : Array Value).toList[i]? = some v' := h'
          rw [h] at h'; cases h'
          cases i with
          | zero => simp at h; subst h; exact .bool false
          | succ i => simp at h
        · have hpost : RunPost B lo0 m H w (.loop c) a ro ex₁ fr₁ H₁ e a₁ w₁ := ⟨he, m₁, g0.trans hg, hf₁, fun t h' => (ht₁ t h').trans (ht t h')⟩
          subst he
          cases ex₁ with
          | normal => exact absurd rfl hexn
          | _ => exact hpost
      cases hmmc : mm with
      | none =>
        rw [hmmc] at hmm
        simp only at hmm
        subst hmm
        have hes0 : es = [] := by rw [hmmc] at h2; simpa [entriesOf] using h2.symm
        have ho0 : o = none := by rw [hes0] at hrounds; simpa [roundsV] using hrounds.symm
        refine wpIn_loop_once (hfin ho0 a w ⟨⟨#[], hblk0⟩, fun _ _ _ => rfl, Nat.le_refl _, ⟨rfl, rfl⟩, hf0, fun _ _ => rfl, fun _ _ _ i _ e he => by rw [hes0] at he; simp at he⟩ fun ty => ?_)
        obtain ⟨p', hm', he⟩ := hev a hf0
        rw [hm] at hm'; cases hm'
        rw [he, hbase]
        simp only [Instr.next, Sem.run_bind, getObj_run hblk0 (fun c e f h => by cases h), Result.andThen_ok, Sem.run_pure]
      | some rm =>
        rw [hmmc] at hmm h2
        obtain ⟨q, hq, rfl⟩ := hmm
        have hmap : H.objs.get rm = some (.map es) := by
          simp only [entriesOf] at h2
          split at h2
          · rename_i es' hes; simp only [Option.some.injEq] at h2; subst h2; exact hes
          · simp at h2
        obtain ⟨es', m1, m2, m3⟩ := hR.obj rm q _ hq hmap
        have hqlt := (hR.dom rm q hq).2.1
        have hqp : q.blk ≠ p.blk := fun hbb => by
          have hne : r ≠ rm := fun h => by subst h; rw [hobj] at hmap; cases hmap
          exact hR.sep r rm p q _ _ hne hlo0 hm hq hobj hmap hbb.symm
        have hborn : ∀ (i : Nat) (e : MapEntry), es'[i]? = some e → e.born = i ∧ i < n := fun i e he => by
          have hlt : i < es'.size := (Array.getElem?_eq_some_iff.1 he).1
          have hlt' : i < es.length := by omega
          obtain ⟨e', h4, _, _, h5⟩ := m3 i es[i].1 es[i].2 (List.getElem?_eq_getElem hlt')
          rw [he] at h4; cases h4
          exact ⟨h5, by omega⟩
        have hold : ∀ x ∈ es'.toList, x.born < n := fun x hx => by
          obtain ⟨i, hi⟩ := List.mem_iff_getElem?.1 hx
          obtain ⟨h4, h5⟩ := hborn i x (by rw [← Array.getElem?_toList]; exact hi)
          omega
        have hsize : es'.size = n := by omega
        let μ : Act → World → Nat := fun _ w' => match w'.heap[p.blk]? with
          | some (.mapIter _ _ seen _) => (leftOf es' seen).size
          | _ => 0
        refine wpIn_loop I μ ⟨⟨#[], hblk0⟩, fun _ _ _ => rfl, Nat.le_refl _, ⟨rfl, rfl⟩, hf0, fun _ _ => rfl, fun seen lst hs i hi => by rw [hblk0] at hs; cases hs; simp at hi⟩ fun a' w' hI => ?_
        obtain ⟨⟨seen, hs1⟩, hb, hsz, hos, hf', ht, hnorm⟩ := hI
        obtain ⟨p', hm', he'⟩ := hev a' hf'
        rw [hm] at hm'; cases hm'
        rw [hbase] at he'
        have hqb : w'.heap[q.blk]? = some (.map es' n) := by rw [hb _ hqlt hqp, m1, hsize]
        -- what 'next' comes to does not hang on the type
        rcases run_next_at (P := E.P) w' 0 p.blk q.blk n n seen es' n hs1 hqb hold (Nat.le_refl _) with ⟨h4, h5⟩ | ⟨e, h4, w1, h5, h6⟩
        · have ho0 : o = none := by
            cases ho : o with
            | none => rfl
            | some vs =>
              obtain ⟨k, e, fr2, h6, H6, h7, _⟩ := hsome rfl vs ho
              rw [Nat.zero_add] at h7
              obtain ⟨e', h8, _, _, h9⟩ := m3 k e.1 e.2 h6
              have hin : k ∈ seen.toList := by
                have hmem : e' ∈ es'.toList := List.mem_iff_getElem?.2 ⟨k, by rw [Array.getElem?_toList]; exact h8⟩
                have := seen_of_left h4 hmem
                rwa [h9] at this
              obtain ⟨fr3, H3, h10, _⟩ := hnorm seen n hs1 k hin e h6
              rw [h7] at h10
              cases h10
          refine Go.wpIn_mono (hfin ho0 a' w' ⟨⟨seen, hs1⟩, hb, hsz, hos, hf', ht, hnorm⟩ fun ty => by rw [he']; exact h5) fun e a₁ w₁ hp => ?_
          cases e <;> first | exact hp | exact hp.elim
        · obtain ⟨hmem, hnot⟩ := mem_left h4
          obtain ⟨i, hi'⟩ := List.mem_iff_getElem?.1 hmem
          have hi' : es'[i]? = some e := by rw [← Array.getElem?_toList]; exact hi'
          obtain ⟨hb1, hb2⟩ := hborn i e hi'
          have hes : es[i]? = some es[i] := List.getElem?_eq_getElem (by omega)
          obtain ⟨exr, fr₂, hround, hkind⟩ := hrnd i _ hes
          rw [Nat.zero_add] at hround
          have hround' := hround
          obtain ⟨H₂, hr1, hr2, hr3⟩ := hround
          obtain ⟨e'', h7, hk1, hv1, _⟩ := m3 i es[i].1 es[i].2 hes
          rw [hi'] at h7; cases h7
          have hw1h : w1.heap = w'.heap ∧ w1.os = w'.os ∧ w1.output = w'.output := by rcases h5 with rfl | rfl <;> exact ⟨rfl, rfl, rfl⟩
          have hset : ∀ b, b ≠ p.blk → (ChangeMaps.setBlock w1 p.blk (.mapIter (some q.blk) n (seen.push e.born) n)).heap[b]? = w'.heap[b]? := fun b hbb => by
            show (w1.heap.setIfInBounds p.blk _)[b]? = _
            rw [Array.getElem?_setIfInBounds_ne (Ne.symm hbb), hw1h.1]
          have hset2 : (ChangeMaps.setBlock w1 p.blk (.mapIter (some q.blk) n (seen.push e.born) n)).heap[p.blk]? = some (.mapIter (some q.blk) n (seen.push e.born) n) := by
            show (w1.heap.setIfInBounds p.blk _)[p.blk]? = _
            rw [Array.getElem?_setIfInBounds_self_of_lt (by rw [hw1h.1]; omega)]
          have hset3 : (ChangeMaps.setBlock w1 p.blk (.mapIter (some q.blk) n (seen.push e.born) n)).heap.size = w'.heap.size := by
            show (w1.heap.setIfInBounds p.blk _).size = _
            rw [Array.size_setIfInBounds, hw1h.1]
          have hRi : Rel B lo0 m { objs := (H.setObj r (.iter mm n (.told i))).objs, grps := H.grps, next := H.next, lo := H.next } (ChangeMaps.setBlock w1 p.blk (.mapIter (some q.blk) n (seen.push e.born) n)) := by
            refine hR.other hm hlo0 hobj (fun c g t h => by cases h) (o' := .iter mm n (.told i)) (fun c g t h => by cases h) (by rw [hset3]; exact hsz) (fun b hb1 hb2 => (hset b hb2).trans (hb b hb1 hb2)) ?_ (fun j x hx => ?_) rfl rfl (Nat.le_trans hR.lo hR.nxt) (Nat.le_refl _)
            · refine ⟨hbase, some q.blk, seen.push e.born, hset2, ?_, ?_⟩
              · rw [hmmc]; exact ⟨q, hq, rfl⟩
              · rw [Array.back?_push, hb1]
            · simp only [Heap.setObj, Tr.force_eq] at hx
              exact Tr.get_set hx
          have hvt : VRel m (.tuple #[.bool true, es[i].1, es[i].2]) (.tuple #[.bool true, e.key, e.val]) :=
            .of_tuple (l := [.bool true, es[i].1, es[i].2]) (l' := [.bool true, e.key, e.val]) (.cons (.bool true) (.cons hk1 (.one hv1)))
          refine Go.wpIn_mono (runHead_sim hE hO hrun c hi _ _ _ _ _ m a' w' ro hr1 (fun ty => by rw [he']; exact h6) hRi hvt hf') fun ex2 a₁ w₁ ⟨he2, m₁, hg, hf₁, ht₁⟩ => ?_
          subst he2
          have hfr : ∀ b, b < w'.heap.size → w₁.heap[b]? = (ChangeMaps.setBlock w1 p.blk (.mapIter (some q.blk) n (seen.push e.born) n)).heap[b]? := fun b hbl => hg.frame b (by rw [hset3]; exact hbl) fun j qq hj hjl => by
            have := (hR.dom j qq hj).1
            have hjl : H.next ≤ j := hjl
            omega
          have hit : w₁.heap[p.blk]? = some (.mapIter (some q.blk) n (seen.push e.born) n) := (hfr _ (by omega)).trans hset2
          rcases hkind with rfl | ⟨rfl, vs, rfl, hvs⟩
          case inr =>
            simp only [Option.some.injEq, Prod.mk.injEq] at h
            obtain ⟨rfl, rfl, rfl⟩ := h
            have hb' : ∀ b, b < w.heap.size → b ≠ p.blk → w₁.heap[b]? = w.heap[b]? := fun b hb1 hb2 => (hfr b (by omega)).trans ((hset b hb2).trans (hb b hb1 hb2))
            have hs' : w.heap.size ≤ w₁.heap.size := by
              have := hg.size
              rw [hset3] at this
              omega
            have g0 : Good B lo0 m H w m { objs := H.objs.del r, grps := H.grps, next := H.next, lo := H.lo } w₁ := ⟨m.le_refl, hdel w₁ hb' hs', fun _ _ h => .inl h, fun r p h h' => (by rw [h] at h'; cases h'), Nat.le_refl _, rfl,
              fun b hb1 hne => hb' b hb1 fun hbb => hne r p hm hlo hbb.symm, hs', fun j x _ hx => (Tr.get_del hx).2, ⟨hg.os.1.trans (hw1h.2.1.trans hos.1), hg.os.2.trans (hw1h.2.2.trans hos.2)⟩⟩
            refine ⟨rfl, m, g0, ⟨fun t v hv => ?_, ?_, MRel.back hg.le hf'.marks ?_, hf.round⟩, fun t h' => (ht₁ t h').trans (ht t h')⟩
            · rcases setAll_get hv with hv | hv
              · obtain ⟨v', h8, h9⟩ := hf₁.tmps t v (hvs _ hv)
                exact ⟨v', h8, h9.of_plain1 (hplain vs rfl _ hv).1⟩
              · obtain ⟨h8, h9⟩ := dropAll_get hv
                obtain ⟨v', h10, h11⟩ := hf.tmps t v h9
                exact ⟨v', (ht₁ t h8).trans ((ht t h8).trans h10), h11⟩
            · have := hf₁.size
              rw [this, hr3]
            · have := hf₁.marks
              rwa [hr2] at this
          refine ⟨⟨⟨seen.push e.born, hit⟩, fun b hb1 hb2 => (hfr b (by omega)).trans ((hset b hb2).trans (hb b hb1 hb2)), ?_, ?_, ?_, fun t h' => (ht₁ t h').trans (ht t h'), fun seen' lst hs2 j hj e2 he2 => ?_⟩, ?_⟩
          · have := hg.size
            rw [hset3] at this
            omega
          · exact ⟨hg.os.1.trans (hw1h.2.1.trans hos.1), hg.os.2.trans (hw1h.2.2.trans hos.2)⟩
          · refine hf.dropped (fun t h' => (ht₁ t h').trans (ht t h')) ?_ (MRel.back hg.le hf'.marks ?_)
            · have := hf₁.size
              rw [this, hr3]
            · have := hf₁.marks
              rwa [hr2] at this
          · rw [hit] at hs2
            cases hs2
            rw [Array.toList_push, List.mem_append, List.mem_singleton] at hj
            rcases hj with hj | rfl
            · exact hnorm seen n hs1 j hj e2 he2
            · rw [hb1] at he2
              rw [hes] at he2
              cases he2
              rw [hb1]
              exact ⟨fr₂, hround'⟩
          · show (match w₁.heap[p.blk]? with | some (.mapIter _ _ seen _) => (leftOf es' seen).size | _ => 0) < (match w'.heap[p.blk]? with | some (.mapIter _ _ seen _) => (leftOf es' seen).size | _ => 0)
            rw [hit, hs1]
            exact left_shrinks es' seen e h4
    · simp at h
  · simp at h
end
end Go.AM

namespace Go.AM
section
variable [Maps] {B lo0 : Nat} {m : Match} {H : Heap} {w : World} {E : Env}
def LoopSim (E : Env) (run : Code → Fr → Heap → Option (Ex × Fr × Heap)) : Prop := ∀ c fr H ex fr' H', headNext c = none → run (.loop c) fr H = some (ex, fr', H') → ∃ N, ∀ B lo0 m a w ro, Rel B lo0 m H w → FrRel m fr a ro →
  Code.roundsIn (fenceOf ro) 0 E.P c (RunPost B lo0 m H w (.loop c) a ro ex fr' H') N a w
end
section
variable {B lo0 : Nat} {m : Match} {w : World} {P : Program}
theorem roundsIn_mono {F : Fence} {n : Nat} {P : Program} {c : Code} {Q Q' : Exit → Act → World → Prop} (hq : ∀ e a w, Q e a w → Q' e a w) : ∀ {N : Nat} {a : Act} {w : World}, Code.roundsIn F n P c Q N a w → Code.roundsIn F n P c Q' N a w
  | 0, _, _, h => h.elim
  | N + 1, a, w, h => by
    rw [roundsIn_succ] at h ⊢
    refine Go.wpIn_mono h fun e a' w' hp => ?_
    cases e with
    | normal => exact roundsIn_mono hq hp
    | _ => exact hq _ _ _ hp
end
section
variable [Maps] {B lo0 : Nat} {m : Match} {H : Heap} {w : World} {E : Env}
theorem RunPost.after {c c' : Code} {a a₁ : Act} {ro : Option Nat} {ex : Ex} {fr' : Fr} {H' H₁ : Heap} {m₁ : Match} {w₁ : World} (hg : Good B lo0 m H w m₁ H₁ w₁) (ha : ∀ t, t ∉ writesOf c' → a₁.tmps[t]? = a.tmps[t]?) (hw : ∀ t, t ∉ writesOf c' → t ∉ writesOf c)
    {e : Exit} {a' : Act} {w' : World} (h : RunPost B lo0 m₁ H₁ w₁ c a₁ ro ex fr' H' e a' w') : RunPost B lo0 m H w c' a ro ex fr' H' e a' w' :=
  let ⟨h1, m', h2, h3, h4⟩ := h
  ⟨h1, m', hg.trans h2, h3, fun t ht => (h4 t (hw t ht)).trans (ha t ht)⟩
end
section
variable {B lo0 : Nat} {m : Match} {w : World} {P : Program}
theorem then_of {ex : Ex} {e : Exit} {next : Act → World → Prop} {Q : Exit → Act → World → Prop} {a : Act} {w : World} (he : e = ex.to) (hn : ex = .normal → next a w) (hq : ex ≠ .normal → Q ex.to a w) : Exit.then next Q e a w := by
  subst he
  cases ex with
  | normal => exact hn rfl
  | ret => exact hq (by simp)
  | exit id => exact hq (by simp)
theorem wpIn_scope {F : Fence} {n : Nat} {P : Program} {Q : Exit → Act → World → Prop} {a : Act} {w : World} {c : Code} (h : c.wpIn F n P Q a w) (hq : ∀ l a w, ¬ Q (.goto l) a w) : (Code.scope c).wpIn F n P Q a w := by
  intro b k cs hro hb hr
  have h0 : (lone (b.atR a (.code (.scope c) :: k)) cs w).fenced P F := fenced_calm hb hr rfl
  have hs : step P (lone (b.atR a (.code (.scope c) :: k)) cs w) = .next (lone (b.atR a (.code c :: .inScope c :: k)) cs w) := step_lone_go (by simp [stepG, stepG.exec, Frame.atR])
  obtain ⟨e, a₁, w₁, hq₁, harr⟩ := h b (.inScope c :: k) cs hro hb hr
  cases e with
  | normal => exact ⟨.normal, a₁, w₁, hq₁, .head h0 hs (StepsIn.trans harr (.one (fenced_calm hb hr rfl) (step_lone_go (by simp [stepG, stepG.exec, Frame.atR]))))⟩
  | exit id' =>
    have hx : exitTo id' (.inScope c :: k) = exitTo id' k := by simp [exitTo]
    exact ⟨.exit id', a₁, w₁, hq₁, fun k' hk => .head h0 hs (harr.1 k' (by rw [hx]; exact hk)),
        fun hr' hk => let ⟨k₁, h1, h2⟩ := harr.2 hr' (by rw [hx]; exact hk); ⟨k₁, h1, .head h0 hs h2⟩⟩
  | goto l => exact absurd hq₁ (hq l a₁ w₁)
  | ret => exact ⟨_, a₁, w₁, hq₁, .of_steps (.one h0 hs) harr⟩
  | panic ch => exact ⟨_, a₁, w₁, hq₁, .of_steps (.one h0 hs) harr⟩
  | outgrown => exact ⟨_, a₁, w₁, hq₁, .of_steps (.one h0 hs) harr⟩
end
section
variable [Maps] {B lo0 : Nat} {m : Match} {H : Heap} {w : World} {E : Env}
theorem rangeFunc_sim (hE : EnvOk E) {run : Code → Fr → Heap → Option (Ex × Fr × Heap)} (hrun : CodeSim E run) {g : Operand} {gv : Value} {ps : Array Tmp} {assign body : Code} {fr fr' : Fr} {ex : Ex} {H' : Heap} {a : Act} {ro : Option Nat} (hR : Rel B lo0 m H w) (hf : FrRel m fr a ro)
    (h0 : fr.round = none) (h1 : ev fr.T g = some gv) (h : rangeV E run gv ps.toList assign body fr H = some (ex, fr', H')) :
    (Code.rangeFunc g ps assign body).wpIn (fenceOf ro) 0 E.P (RunPost B lo0 m H w (.rangeFunc g ps assign body) a ro ex fr' H') a w := by
  obtain rfl := hf.round h0
  have hg := ev_rel hf.tmps h1
  unfold rangeV at h
  split at h
  · rename_i gf first captured
    simp only [Option.bind_eq_some_iff] at h
    obtain ⟨⟨rv, H₃⟩, h2, h3⟩ := h
    -- the two blocks
    have g1 : Good B lo0 m H w (upd m H.next ⟨w.heap.size, 0, 0, true, 0⟩) (H.add .defers) (w.alloc (.deferred (some []))) :=
      Good.added hR (.deferred (some [])) .defers ⟨w.heap.size, 0, 0, true, 0⟩ rfl rfl ⟨rfl, rfl⟩ (by show (w.heap.push _)[w.heap.size]? = _; simp) (fun c g t h => by cases h)
    have hsz : (w.alloc (.deferred (some []))).heap.size = w.heap.size + 1 := by show (w.heap.push _).size = _; simp
    have hn1 : (H.add .defers).next = H.next + 1 := add_next H _
    have hpush : ∀ O, ((w.alloc (.deferred (some []))).alloc O).heap[w.heap.size + 1]? = some O := fun O => by
      show ((w.alloc (.deferred (some []))).heap.push O)[w.heap.size + 1]? = _
      rw [← hsz]
      exact Array.getElem?_push_size ..
    let L : FuncId → Loop := fun fn => { state := .ready, pending := none, fn, tmps := a.tmps, params := ps, assign, body, defers := w.heap.size }
    have g2 : ∀ fn, Good B lo0 (upd m H.next ⟨w.heap.size, 0, 0, true, 0⟩) (H.add .defers) (w.alloc (.deferred (some []))) (upd (upd m H.next ⟨w.heap.size, 0, 0, true, 0⟩) (H.add .defers).next ⟨w.heap.size + 1, 0, 0, true, 0⟩)
        ((H.add .defers).add (.loop .ready none fr.size fr.T ps.toList assign body H.next)) ((w.alloc (.deferred (some []))).alloc (.loop (L fn))) := fun fn =>
      Good.added g1.rel (.loop (L fn)) _ ⟨w.heap.size + 1, 0, 0, true, 0⟩ hsz.symm rfl ⟨rfl, rfl⟩
        ⟨L fn, hpush _, rfl, rfl, hf.size, hf.tmps.mono (Match.le_trans g1.le (upd_le _ g1.rel.none_of_next)), rfl, rfl, rfl⟩ (fun c g t h => by cases h)
    have hml : (upd (upd m H.next ⟨w.heap.size, 0, 0, true, 0⟩) (H.add .defers).next ⟨w.heap.size + 1, 0, 0, true, 0⟩) (H.add .defers).next = some ⟨w.heap.size + 1, 0, 0, true, 0⟩ := upd_self _ _ _
    refine wpIn_rangeFunc fun fn _ => ?_
    have hgood := g1.trans (g2 fn)
    have hcall := callBody_sim hE hrun (B := B) (lo0 := lo0) _ _ _ _ _ h2 _ _ _ #[.func (.yield (w.heap.size + 1)) #[] #[]] (hg.mono hgood.le)
      (.one (.func ⟨_, hml, rfl⟩ rfl rfl (fun i v v' h => by simp at h) (fun i v v' h => by simp at h))) (g2 fn).rel
    -- the function has a body
    cases hg' : a.eval g with
    | func f' first' captured' =>
      rw [hg'] at hg hcall
      cases hg with
      | func hfr _ _ _ _ =>
        simp only [FnRel] at hfr
        subst hfr
        have hbody : ∃ fd c, E.fn.get gf = some fd ∧ fd.body = some c := by
          simp only [callBody, target, Option.bind_some, Option.bind_eq_some_iff] at h2
          obtain ⟨fd, k1, h2⟩ := h2
          split at h2
          · rw [nativeV_func] at h2
            simp at h2
          · rename_i c k2
            exact ⟨fd, c, k1, k2⟩
        obtain ⟨fd, c, k1, k2⟩ := hbody
        have hrn : ∀ args' w', (callFunc gf args').run E.P w' = .ok (.enter gf args') w' := fun args' w' => by
          simp only [callFunc, Sem.run_bind, run_program, Result.andThen_ok, hE.fn gf fd k1, hE.num gf fd k1, k2, Bool.false_eq_true, if_false, Option.isNone_some, Sem.run_pure]
        simp only [Deferred.ofValue, Sem.run_bind, Sem.run_pure, Result.andThen_ok, invoke, hrn] at hcall
        have hfence : (fenceOf none).depth.isSome = true → 1 ≤ 0 := fun h => by simp [fenceOf, Fence.wide] at h
        refine ⟨w.heap.size + 1, ([{ target := .collected w.heap.size, args := #[] }] : List Deferred), (w.alloc (.deferred (some []))).alloc (.loop (L fn)),
          ({ target := .fn (.func gf) captured', args := first' ++ #[Value.func (Fn.yield (w.heap.size + 1)) #[] #[]] } : Deferred), (w.alloc (.deferred (some []))).alloc (.loop (L fn)), gf,
          first' ++ #[Value.func (Fn.yield (w.heap.size + 1)) #[] #[]] ++ captured', (w.alloc (.deferred (some []))).alloc (.loop (L fn)), ?_, ?_, fun _ _ => trivial, (by simp only [invoke]; exact hrn _ _), hfence, ?_⟩
        · show (Instr.enterLoop fn a.tmps ps assign body none).run E.P w = _
          simp only [Instr.enterLoop, Sem.run_bind, Sem.run_pure, run_newObj, Result.andThen_ok]
          rw [← hsz]
          rfl
        · have hmap : (#[Operand.const (.func (.yield (w.heap.size + 1)) #[] #[])]).map a.eval = #[Value.func (Fn.yield (w.heap.size + 1)) #[] #[]] := by simp [Act.eval]
          simp only [resolve, hg', Deferred.ofValue, Sem.run_pure, hmap]
        · have h5 : CallsIn (fenceOf none) 0 E.P _ _ _ _ := hcall
          refine h5.mono fun e w₃ ⟨v, he, m₃, hg₃, _⟩ => ?_
          subst he
          have hm₃ := hg₃.le _ _ hml
          simp only at h3
          split at h3
          · rename_i st pend size T ps' as bo de hobj
            obtain ⟨L₃, e1, e2, e3, e4, e5, e6, e7, e8⟩ := loop_inv (hg₃.rel.obj _ _ _ hm₃ hobj)
            have hlo : H₃.lo ≤ (H.add .defers).next := by
              have := hR.nxt
              rw [hg₃.lo, (g2 fn).lo, g1.lo, hn1]; omega
            have hb := (hg₃.rel.dom _ _ hm₃).2.1
            have hg₄ : Good B lo0 m₃ H₃ w₃ m₃ (H₃.setObj (H.add .defers).next (.loop .exhausted pend size T ps' as bo de)) (setBlk w₃ (w.heap.size + 1) (.loop { L₃ with state := .exhausted })) := by
              refine Good.exchange hg₃.rel hm₃ hlo hobj (fun c g t h => by cases h) (fun c g t h => by cases h) (o' := .loop .exhausted pend size T ps' as bo de) ?_ ?_ ?_ (fun j x hx => ?_) ⟨_, setBlk_self _ hb, rfl, e3, e4, e5, e6, e7, e8⟩
              · simp [Heap.setObj, Tr.force_eq]
              · simp [Heap.setObj, Tr.force_eq]
              · simp [Heap.setObj, Tr.force_eq]
              · simp only [Heap.setObj, Tr.force_eq] at hx
                exact Tr.get_set hx
            have hall := (hgood.trans hg₃).trans hg₄
            have hend : st ≠ .busy → (Instr.endLoop (w.heap.size + 1)).run E.P w₃ = .ok pend (setBlk w₃ (w.heap.size + 1) (.loop { L₃ with state := .exhausted })) := fun hst => by
              have hb2 : (L₃.state == LoopState.busy) = false := by rw [e2]; cases st <;> first | rfl | exact absurd rfl hst
              simp only [Instr.endLoop, Sem.run_bind, getLoop_run e1, Result.andThen_ok, hb2, Bool.false_eq_true, if_false, Sem.run_pure, setObj_run e1 (fun c e f h => by cases h), e3]
            have hmk : MRel m₃ (H.next :: fr.marks) ([{ target := .collected w.heap.size, args := #[] }] ++ a.defers) := by
              refine ⟨⟨⟨w.heap.size, 0, 0, true, 0⟩, hg₃.le _ _ ((g2 fn).le _ _ (upd_self _ _ _)), rfl⟩, hf.marks.mono (Match.le_trans hgood.le hg₃.le)⟩
            have hfr : FrRel m₃ { T := fr.T, size := fr.size, marks := H.next :: fr.marks, round := fr.round } { a with defers := [{ target := .collected w.heap.size, args := #[] }] ++ a.defers } none :=
              ⟨hf.tmps.mono (Match.le_trans hgood.le hg₃.le), hf.size, hmk, hf.round⟩
            have hst : st ≠ .busy := fun hst => by subst hst; simp at h3
            refine ⟨pend, _, hend hst, ?_⟩
            cases pend with
            | none =>
              have h6 : ex = .normal ∧ fr' = { T := fr.T, size := fr.size, marks := H.next :: fr.marks, round := fr.round } ∧ H' = H₃.setObj (H.add .defers).next (.loop .exhausted none size T ps' as bo de) := by
                cases st <;> simp only [Option.some.injEq, Prod.mk.injEq, reduceCtorEq] at h3 <;> exact ⟨h3.1.symm, h3.2.1.symm, h3.2.2.symm⟩
              obtain ⟨rfl, rfl, rfl⟩ := h6
              exact ⟨rfl, m₃, hall, hfr, fun _ _ => rfl⟩
            | some cc =>
              have h6 : (cc = .ret ∨ ∃ id, cc = .exit id) ∧ run cc { T := fr.T, size := fr.size, marks := H.next :: fr.marks, round := fr.round } (H₃.setObj (H.add .defers).next (.loop .exhausted (some cc) size T ps' as bo de)) = some (ex, fr', H') := by
                cases cc <;> cases st <;> simp only [reduceCtorEq] at h3 <;> first
                  | exact ⟨.inl rfl, h3⟩
                  | exact ⟨.inr ⟨_, rfl⟩, h3⟩
              obtain ⟨h7, h8⟩ := h6
              refine Go.wpIn_mono (hrun cc _ _ ex fr' H' h8 B lo0 m₃ _ _ none hg₄.rel hfr) fun e a' w' hp => RunPost.after hall (fun _ _ => rfl) (fun t _ => ?_) hp
              rcases h7 with rfl | ⟨id, rfl⟩ <;> simp [writesOf]
          · simp at h3
    | _ => rw [hg'] at hg; cases hg
  · simp at h
theorem fewLoop_sim {run : Code → Fr → Heap → Option (Ex × Fr × Heap)} (hrun : CodeSim E run) {c : Code} {fr fr' : Fr} {ex : Ex} {H' : Heap} {a : Act} {ro : Option Nat} (hR : Rel B lo0 m H w) (hf : FrRel m fr a ro) (h : fewLoop run c fr H = some (ex, fr', H')) :
    (Code.loop c).wpIn (fenceOf ro) 0 E.P (RunPost B lo0 m H w (.loop c) a ro ex fr' H') a w := by
  unfold fewLoop at h
  simp only [Option.bind_eq_some_iff] at h
  obtain ⟨⟨ex₁, fr₁, H₁⟩, h1, h2⟩ := h
  have one : ∀ ex₁ fr₁ H₁, run c fr H = some (ex₁, fr₁, H₁) → ex₁ ≠ .normal → (Code.loop c).wpIn (fenceOf ro) 0 E.P (RunPost B lo0 m H w (.loop c) a ro ex₁ fr₁ H₁) a w := fun ex₁ fr₁ H₁ h1 hne => by
    refine wpIn_loop_rounds 1 ?_
    rw [roundsIn_succ]
    refine Go.wpIn_mono (hrun c fr H _ _ _ h1 B lo0 m a w ro hR hf) fun e a' w' hp => ?_
    have he := hp.1
    have hp' := RunPost.after (c' := .loop c) (.refl hR) (fun _ _ => rfl) (fun t h' h => h' h) hp
    cases ex₁ with
    | normal => exact absurd rfl hne
    | ret => subst he; exact hp'
    | exit id => subst he; exact hp'
  cases ex₁ with
  | ret =>
    simp only [Option.some.injEq, Prod.mk.injEq] at h2
    obtain ⟨rfl, rfl, rfl⟩ := h2
    exact one _ _ _ h1 (by simp)
  | exit id =>
    simp only [Option.some.injEq, Prod.mk.injEq] at h2
    obtain ⟨rfl, rfl, rfl⟩ := h2
    exact one _ _ _ h1 (by simp)
  | normal =>
    simp only [Option.bind_eq_some_iff] at h2
    obtain ⟨⟨ex₂, fr₂, H₂⟩, h3, h4⟩ := h2
    refine wpIn_loop_rounds 2 ?_
    rw [roundsIn_succ]
    refine Go.wpIn_mono (hrun c fr H _ _ _ h1 B lo0 m a w ro hR hf) fun e a' w' hp => ?_
    obtain ⟨rfl, m₁, hg₁, hf₁, ht₁⟩ := hp
    show Code.roundsIn (fenceOf ro) 0 E.P c _ 1 a' w'
    rw [roundsIn_succ]
    refine Go.wpIn_mono (hrun c fr₁ H₁ _ _ _ h3 B lo0 m₁ a' w' ro hg₁.rel hf₁) fun e a₂ w₂ hp => ?_
    have he := hp.1
    have hp' := RunPost.after (c' := .loop c) hg₁ (fun t ht => ht₁ t ht) (fun t h' h => h' h) hp
    cases ex₂ with
    | normal => simp at h4
    | ret =>
      simp only [Option.some.injEq, Prod.mk.injEq] at h4
      obtain ⟨rfl, rfl, rfl⟩ := h4
      subst he; exact hp'
    | exit id =>
      simp only [Option.some.injEq, Prod.mk.injEq] at h4
      obtain ⟨rfl, rfl, rfl⟩ := h4
      subst he; exact hp'
theorem runWith_sim (hE : EnvOk E) (hO : OrcOk E) {run : Code → Fr → Heap → Option (Ex × Fr × Heap)} (hlow : RunLow run) (hrun : CodeSim E run) (hloop : LoopSim E run) : CodeSim E (runWith E run) ∧ LoopSim E (runWith E run) := by
  have hL : LoopSim E (runWith E run) := by
    intro c fr H ex fr' H' hh h
    simp only [runWith, hh, Option.bind_eq_some_iff] at h
    obtain ⟨⟨ex₁, fr₁, H₁⟩, h1, h2⟩ := h
    by_cases hex : ex₁ = .normal
    · subst hex
      simp only at h2
      obtain ⟨N, hN⟩ := hloop c fr₁ H₁ ex fr' H' hh h2
      refine ⟨N + 1, fun B lo0 m a w ro hR hf => ?_⟩
      rw [roundsIn_succ]
      refine Go.wpIn_mono (hrun c fr H _ _ _ h1 B lo0 m a w ro hR hf) fun e a₁ w₁ ⟨he, m₁, hg, hf₁, ht⟩ => ?_
      refine then_of he (fun _ => ?_) (fun h => absurd rfl h)
      exact roundsIn_mono (fun e a' w' hp => RunPost.after hg ht (fun t ht => ht) hp) (hN B lo0 m₁ a₁ w₁ ro hg.rel hf₁)
    · refine ⟨1, fun B lo0 m a w ro hR hf => ?_⟩
      rw [roundsIn_succ]
      have h3 : ex₁ = ex ∧ fr₁ = fr' ∧ H₁ = H' := by cases ex₁ <;> simp_all
      obtain ⟨rfl, rfl, rfl⟩ := h3
      refine Go.wpIn_mono (hrun c fr H _ _ _ h1 B lo0 m a w ro hR hf) fun e a₁ w₁ ⟨he, m₁, hg, hf₁, ht⟩ => ?_
      exact then_of he (fun h => absurd h hex) (fun _ => ⟨rfl, m₁, hg, hf₁, ht⟩)
  refine ⟨?_, hL⟩
  intro c fr H ex fr' H' h B lo0 m a w ro hR hf
  have still : ∀ {c : Code}, RunPost B lo0 m H w c a ro .normal fr H .normal a w := ⟨rfl, m, .refl hR, hf, fun _ _ => rfl⟩
  cases c with
  | skip =>
    simp only [runWith, Option.some.injEq, Prod.mk.injEq] at h
    obtain ⟨rfl, rfl, rfl⟩ := h
    exact wpIn_skip still
  | label l =>
    simp only [runWith, Option.some.injEq, Prod.mk.injEq] at h
    obtain ⟨rfl, rfl, rfl⟩ := h
    exact wpIn_label still
  | exit id =>
    simp only [runWith, Option.some.injEq, Prod.mk.injEq] at h
    obtain ⟨rfl, rfl, rfl⟩ := h
    exact wpIn_exit ⟨rfl, m, .refl hR, hf, fun _ _ => rfl⟩
  | ret =>
    simp only [runWith, Option.some.injEq, Prod.mk.injEq] at h
    obtain ⟨rfl, rfl, rfl⟩ := h
    exact wpIn_ret ⟨rfl, m, .refl hR, hf, fun _ _ => rfl⟩
  | region id ops draw =>
    cases draw with
    | false =>
      simp only [runWith, Option.bind_eq_some_iff, Option.some.injEq, Prod.mk.injEq] at h
      obtain ⟨⟨T', H₁⟩, h1, rfl, rfl, rfl⟩ := h
      exact region_sim hE (callWith_sim hE hO hrun) hR hf h1
    | true =>
      simp only [runWith, Option.bind_eq_some_iff, Option.some.injEq, Prod.mk.injEq] at h
      obtain ⟨⟨T', H₁⟩, h1, rfl, rfl, rfl⟩ := h
      exact draw_sim hE (fun B lo0 => callWith_sim hE hO hrun) (low_callWith hO.low hlow) hR hf h1
  | seq x y =>
    simp only [runWith, Option.bind_eq_some_iff] at h
    obtain ⟨⟨ex₁, fr₁, H₁⟩, h1, h2⟩ := h
    refine wpIn_seq (Go.wpIn_mono (hrun x fr H _ _ _ h1 B lo0 m a w ro hR hf) fun e a₁ w₁ ⟨he, m₁, hg, hf₁, ht⟩ => then_of he (fun hn => ?_) (fun hn => ?_))
    · subst hn
      refine Go.wpIn_mono (hrun y fr₁ H₁ _ _ _ h2 B lo0 m₁ a₁ w₁ ro hg.rel hf₁) fun e a' w' hp => RunPost.after hg (fun t h' => ht t fun h => h' ?_) (fun t h' h => h' ?_) hp
      · simp [writesOf, h]
      · simp [writesOf, h]
    · have h3 : ex₁ = ex ∧ fr₁ = fr' ∧ H₁ = H' := by cases ex₁ <;> simp_all
      obtain ⟨rfl, rfl, rfl⟩ := h3
      exact ⟨rfl, m₁, hg, hf₁, fun t h' => ht t fun h => h' (by simp [writesOf, h])⟩
  | cond x p q =>
    simp only [runWith, Option.bind_eq_some_iff] at h
    obtain ⟨v, h1, h2⟩ := h
    have hv := ev_rel hf.tmps h1
    split at h2
    · have he : a.eval x = .bool true := by generalize a.eval x = z at hv; cases hv; rfl
      refine wpIn_cond_true he (Go.wpIn_mono (hrun p fr H _ _ _ h2 B lo0 m a w ro hR hf) fun e a' w' hp => RunPost.after (.refl hR) (fun _ _ => rfl) (fun t h' h => h' (by simp [writesOf, h])) hp)
    · have he : a.eval x = .bool false := by generalize a.eval x = z at hv; cases hv; rfl
      refine wpIn_cond_false he (Go.wpIn_mono (hrun q fr H _ _ _ h2 B lo0 m a w ro hR hf) fun e a' w' hp => RunPost.after (.refl hR) (fun _ _ => rfl) (fun t h' h => h' (by simp [writesOf, h])) hp)
    · simp at h2
  | block id x =>
    simp only [runWith, Option.bind_eq_some_iff] at h
    obtain ⟨⟨ex₁, fr₁, H₁⟩, h1, h2⟩ := h
    refine wpIn_block (Go.wpIn_mono (hrun x fr H _ _ _ h1 B lo0 m a w ro hR hf) fun e a₁ w₁ ⟨he, m₁, hg, hf₁, ht⟩ => ?_)
    have ht' : ∀ t, t ∉ writesOf (.block id x) → a₁.tmps[t]? = a.tmps[t]? := fun t h' => ht t fun h => h' (by simp [writesOf, h])
    subst he
    cases ex₁ with
    | normal =>
      simp only [Option.some.injEq, Prod.mk.injEq] at h2
      obtain ⟨rfl, rfl, rfl⟩ := h2
      exact ⟨rfl, m₁, hg, hf₁, ht'⟩
    | ret =>
      simp only [Option.some.injEq, Prod.mk.injEq] at h2
      obtain ⟨rfl, rfl, rfl⟩ := h2
      exact ⟨rfl, m₁, hg, hf₁, ht'⟩
    | exit i =>
      simp only at h2
      cases hb : Nat.beq i id with
      | true =>
        rw [hb] at h2
        simp only [cond_true, Option.some.injEq, Prod.mk.injEq] at h2
        obtain ⟨rfl, rfl, rfl⟩ := h2
        have : i = id := by simpa using hb
        simp only [Ex.to, Exit.inBlock, this, if_true]
        exact ⟨rfl, m₁, hg, hf₁, ht'⟩
      | false =>
        rw [hb] at h2
        simp only [cond_false, Option.some.injEq, Prod.mk.injEq] at h2
        obtain ⟨rfl, rfl, rfl⟩ := h2
        have : ¬ i = id := fun h => by subst h; simp at hb
        simp only [Ex.to, Exit.inBlock, this, if_false]
        exact ⟨rfl, m₁, hg, hf₁, ht'⟩
  | loop x =>
    cases hh : headNext x with
    | none =>
      obtain ⟨N, hN⟩ := hL x fr H ex fr' H' hh h
      exact wpIn_loop_rounds N (hN B lo0 m a w ro hR hf)
    | some it =>
      simp only [runWith, hh] at h
      cases hg : onG fr.T H it with
      | false =>
        rw [hg] at h
        exact mapLoop_sim hE hO hrun hR hf hh h
      | true =>
        rw [hg] at h
        exact fewLoop_sim hrun hR hf h
  | scope x =>
    simp only [runWith] at h
    refine wpIn_scope (Go.wpIn_mono (hrun x fr H _ _ _ h B lo0 m a w ro hR hf) fun e a' w' hp => RunPost.after (.refl hR) (fun _ _ => rfl) (fun t h' h => h' (by simp [writesOf, h])) hp) fun l a w h => ?_
    have := h.1
    cases ex <;> cases this
  | rangeFunc g ps assign body =>
    simp only [runWith] at h
    cases hr : fr.round with
    | some l => rw [hr] at h; simp at h
    | none =>
      rw [hr] at h
      simp only [Option.bind_eq_some_iff] at h
      obtain ⟨gv, h1, h2⟩ := h
      exact rangeFunc_sim hE hrun hR hf hr h1 h2
  | _ => simp [runWith] at h
theorem run_sim (hE : EnvOk E) (hO : OrcOk E) : ∀ n, CodeSim E (run E n) ∧ LoopSim E (run E n)
  | 0 => ⟨fun c fr H ex fr' H' h => by simp [run] at h, fun c fr H ex fr' H' _ h => by simp [run] at h⟩
  | n + 1 => runWith_sim hE hO (low_run hO.low n) (run_sim hE hO n).1 (run_sim hE hO n).2
end
end Go.AM

namespace Go.AM
section
variable [Maps] {B lo0 : Nat} {m : Match} {H : Heap} {w : World} {E : Env}
structure Old (B : Nat) (w w' : World) : Prop where
  blk : ∀ b, b < B → w'.heap[b]? = w.heap[b]?
  size : w.heap.size ≤ w'.heap.size
  os : w'.os = w.os ∧ w'.output = w.output
end
section
variable {B lo0 : Nat} {m : Match} {w : World} {P : Program}
theorem Old.refl (B : Nat) (w : World) : Old B w w := ⟨fun _ _ => rfl, Nat.le_refl _, rfl, rfl⟩
theorem Old.trans {w w' w'' : World} (h : Old B w w') (h' : Old B w' w'') : Old B w w'' :=
  ⟨fun b hb => (h'.blk b hb).trans (h.blk b hb), Nat.le_trans h.size h'.size, h'.os.1.trans h.os.1, h'.os.2.trans h.os.2⟩
end
section
variable [Maps] {B lo0 : Nat} {m : Match} {H : Heap} {w : World} {E : Env}
theorem Good.old {m' : Match} {H' : Heap} {w' : World} (hR : Rel B H.lo m H w) (h : Good B H.lo m H w m' H' w') : Old B w w' :=
  ⟨fun b hb => h.frame b (Nat.lt_of_lt_of_le hb hR.base) fun r p hr hl hpb => by have := (hR.dom r p hr).2.2.1 hl; omega, h.size, h.os⟩
theorem Rel.fewer (hR : Rel B lo0 m H w) {H' : Heap} (ho : ∀ r o, H'.objs.get r = some o → H.objs.get r = some o) (hg : ∀ g l, H'.grps.get g = some l → H.grps.get g = some l) (hn : H'.next = H.next) (hl : H'.lo = H.lo) : Rel B lo0 m H' w where
  base := hR.base
  glo := hR.glo
  lo := by rw [hl]; exact hR.lo
  nxt := by rw [hl, hn]; exact hR.nxt
  dom := by rw [hn]; exact hR.dom
  obj r p o h h' := hR.obj r p o h (ho r o h')
  sep r r' p p' o o' hne hlo h h' h1 h2 he := hR.sep r r' p p' o o' hne hlo h h' (ho _ _ h1) (ho _ _ h2) he
  tip r r' p p' c c' g z z' h h' h1 h2 := hR.tip r r' p p' c c' g z z' h h' (ho _ _ h1) (ho _ _ h2)
  old r p c g z h h1 l hgl := hR.old r p c g z h (ho _ _ h1) l (hg g l hgl)
  ends r r' p p' c c' g z z' t h h' h1 h2 he := hR.ends r r' p p' c c' g z z' t h h' (ho _ _ h1) (ho _ _ h2) he
  grp r p c g z t h h1 := by rw [hn]; exact hR.grp r p c g z t h (ho _ _ h1)
def Tr.pairsOn {α : Type} : List (Nat × α) → Tr α → Tr α
  | [], s => s
  | x :: l, s => (s.set x.1 x.2).force fun s => Tr.pairsOn l s
def Tr.pairs {α : Type} (l : List (Nat × α)) : Tr α := Tr.pairsOn l Tr.nil
def flat : Code → List Code
  | .seq a b => flat a ++ flat b
  | c => [c]
def wpChain (P : Program) (Q : Exit → Act → World → Prop) : List Code → Act → World → Prop
  | [], a, w => Q .normal a w
  | c :: l, a, w => c.wpIn (fenceOf none) 0 P (Exit.then (wpChain P Q l) Q) a w
end
section
variable {B lo0 : Nat} {m : Match} {w : World} {P : Program}
theorem wpChain_append {P : Program} {Q : Exit → Act → World → Prop} : ∀ (l l' : List Code) (a : Act) (w : World), wpChain P Q (l ++ l') a w → wpChain P (Exit.then (wpChain P Q l') Q) l a w
  | [], l', a, w, h => h
  | c :: l, l', a, w, h => by
    refine Go.wpIn_mono h fun e a' w' he => ?_
    cases e <;> first | exact wpChain_append l l' _ _ he | exact he
theorem wpIn_flat {P : Program} : ∀ (c : Code) {Q : Exit → Act → World → Prop} {a : Act} {w : World}, wpChain P Q (flat c) a w → c.wpIn (fenceOf none) 0 P Q a w := by
  have one : ∀ (c : Code) {Q : Exit → Act → World → Prop} {a : Act} {w : World}, wpChain P Q [c] a w → c.wpIn (fenceOf none) 0 P Q a w := fun c Q a w h =>
    Go.wpIn_mono h fun e a' w' he => by cases e <;> exact he
  intro c
  induction c with
  | seq x y ihx ihy =>
    intro Q a w h
    refine wpIn_seq (ihx ?_)
    have := wpChain_append (flat x) (flat y) a w h
    -- the second part
    have mono : ∀ (l : List Code) (N N' : Exit → Act → World → Prop), (∀ e a w, N e a w → N' e a w) → ∀ a w, wpChain P N l a w → wpChain P N' l a w := by
      intro l N N' hN
      induction l with
      | nil => intro a w h; exact hN _ _ _ h
      | cons c l ih =>
        intro a w h
        refine Go.wpIn_mono h fun e a' w' he => ?_
        cases e <;> first | exact ih _ _ he | exact hN _ _ _ he
    refine mono _ _ _ (fun e a w he => ?_) a w this
    cases e <;> first | exact ihy he | exact he
  | _ => intro Q a w h; exact one _ h
end
section
variable [Maps] {B lo0 : Nat} {m : Match} {H : Heap} {w : World} {E : Env}
def runL (run : Code → Fr → Heap → Option (Ex × Fr × Heap)) : List Code → Fr → Heap → Option (Ex × Fr × Heap)
  | [], fr, H => some (.normal, fr, H)
  | c :: l, fr, H => (run c fr H).bind fun r =>
    match r.1 with
    | .normal => runL run l r.2.1 r.2.2
    | e => some (e, r.2)
theorem runL_sim {run : Code → Fr → Heap → Option (Ex × Fr × Heap)} (hrun : CodeSim E run) {Q : Exit → Act → World → Prop} {l2 : List Code} : ∀ (l : List Code) (fr : Fr) (H : Heap) (ex : Ex) (fr' : Fr) (H' : Heap) (m : Match) (a : Act) (w : World),
    runL run l fr H = some (ex, fr', H') → Rel B lo0 m H w → FrRel m fr a none →
    (∀ a' w' m', Good B lo0 m H w m' H' w' → FrRel m' fr' a' none → (ex = .normal → wpChain E.P Q l2 a' w') ∧ (ex ≠ .normal → Q ex.to a' w')) → wpChain E.P Q (l ++ l2) a w
  | [], fr, H, ex, fr', H', m, a, w, h, hR, hf, hq => by
    simp only [runL, Option.some.injEq, Prod.mk.injEq] at h
    obtain ⟨rfl, rfl, rfl⟩ := h
    exact (hq a w m (.refl hR) hf).1 rfl
  | c :: l, fr, H, ex, fr', H', m, a, w, h, hR, hf, hq => by
    simp only [runL, Option.bind_eq_some_iff] at h
    obtain ⟨⟨ex₁, fr₁, H₁⟩, h1, h2⟩ := h
    refine Go.wpIn_mono (hrun c fr H _ _ _ h1 B lo0 m a w none hR hf) fun e a₁ w₁ ⟨he, m₁, hg, hf₁, _⟩ => ?_
    subst he
    cases ex₁ with
    | normal =>
      exact runL_sim hrun l fr₁ H₁ ex fr' H' m₁ a₁ w₁ h2 hg.rel hf₁ fun a' w' m' hg' hf' => hq a' w' m' (hg.trans hg') hf'
    | exit id =>
      simp only [Option.some.injEq, Prod.mk.injEq] at h2
      obtain ⟨rfl, rfl, rfl⟩ := h2
      exact (hq a₁ w₁ m₁ hg hf₁).2 (by simp)
    | ret =>
      simp only [Option.some.injEq, Prod.mk.injEq] at h2
      obtain ⟨rfl, rfl, rfl⟩ := h2
      exact (hq a₁ w₁ m₁ hg hf₁).2 (by simp)
def keepTr {α : Type} (t : Tr α) : List Nat → Tr α → Tr α
  | [], s => s
  | k :: l, s => match t.get k with
    | some x => (s.set k x).force fun s => keepTr t l s
    | none => keepTr t l s
theorem keepTr_get {α : Type} {t : Tr α} {k : Nat} {v : α} : ∀ {l : List Nat} {s : Tr α}, (keepTr t l s).get k = some v → s.get k = some v ∨ t.get k = some v
  | [], s, h => .inl h
  | j :: l, s, h => by
    simp only [keepTr] at h
    split at h
    · rename_i x hx
      rw [Tr.force_eq] at h
      rcases keepTr_get h with h | h
      · rcases Tr.get_set h with ⟨rfl, rfl⟩ | ⟨_, h⟩
        · exact .inr hx
        · exact .inl h
      · exact .inr h
    · exact keepTr_get h
theorem keepTr_nil {α : Type} {t : Tr α} {k : Nat} {v : α} {l : List Nat} (h : (keepTr t l Tr.nil).get k = some v) : t.get k = some v := by
  rcases keepTr_get h with h | h
  · simp [Tr.get_nil] at h
  · exact h
def chunkN (E : Env) (n : Nat) (l : List Code) (kT kR kG : List Nat) (fr : Fr) (H : Heap) : Option (Fr × Heap) :=
  (runL (run E n) l fr H).bind fun r =>
    match r.1, r.2.1.marks with
    | .normal, [] => (keepTr r.2.1.T kT Tr.nil).force fun T => (keepTr r.2.2.objs kR Tr.nil).force fun O => (keepTr r.2.2.grps kG Tr.nil).force fun G =>
      some ({ T, size := r.2.1.size, marks := [], round := none }, { objs := O, grps := G, next := r.2.2.next, lo := r.2.2.lo })
    | _, _ => none
def endN (E : Env) (n : Nat) (fn : Func) (l : List Code) (fr : Fr) (H : Heap) : Option Value :=
  (runL (run E n) l fr H).bind fun r =>
    match r.1 with
    | .exit _ => none
    | _ => (killMarks H.lo r.2.2.objs r.2.1.marks).bind fun t => (resultsV E { objs := t, grps := r.2.2.grps, next := r.2.2.next, lo := r.2.2.lo } r.2.1.T fn.results.toList).bind fun vs => some (packV vs)
def Fin (E : Env) (fn : Func) (B lo : Nat) (w : World) (v : Value) : Exit → Act → World → Prop := fun e a' w' => (e = .normal ∨ e = .ret) ∧ Old B w w' ∧
  ∃ m' H' fr' t vs, H'.lo = lo ∧ Rel B lo m' H' w' ∧ FrRel m' fr' a' none ∧ killMarks lo H'.objs fr'.marks = some t ∧ resultsV E { objs := t, grps := H'.grps, next := H'.next, lo := H'.lo } fr'.T fn.results.toList = some vs ∧ packV vs = v
theorem Fin.old {fn : Func} {lo : Nat} {w w₁ : World} {v : Value} (h : Old B w w₁) {e : Exit} {a' : Act} {w' : World} (hf : Fin E fn B lo w₁ v e a' w') : Fin E fn B lo w v e a' w' := ⟨hf.1, h.trans hf.2.1, hf.2.2⟩
end
section
variable {B lo0 : Nat} {m : Match} {w : World} {P : Program}
theorem wpChain_mono {P : Program} {N N' : Exit → Act → World → Prop} (hN : ∀ e a w, N e a w → N' e a w) : ∀ (l : List Code) (a : Act) (w : World), wpChain P N l a w → wpChain P N' l a w
  | [], a, w, h => hN _ _ _ h
  | c :: l, a, w, h => by
    refine Go.wpIn_mono h fun e a' w' he => ?_
    cases e <;> first | exact wpChain_mono hN l _ _ he | exact hN _ _ _ he
end
section
variable [Maps] {B lo0 : Nat} {m : Match} {H : Heap} {w : World} {E : Env}
def Ends (E : Env) (fn : Func) (l : List Code) (fr : Fr) (H : Heap) (v : Value) : Prop := ∀ B m a w, Rel B H.lo m H w → FrRel m fr a none → wpChain E.P (Fin E fn B H.lo w v) l a w
theorem Ends.chunk (hE : EnvOk E) (hO : OrcOk E) {fn : Func} {n : Nat} {l l2 : List Code} {kT kR kG : List Nat} {fr fr2 : Fr} {H H2 : Heap} {v : Value} (h : chunkN E n l kT kR kG fr H = some (fr2, H2)) (h2 : Ends E fn l2 fr2 H2 v) : Ends E fn (l ++ l2) fr H v := by
  intro B m a w hR hf
  unfold chunkN at h
  simp only [Option.bind_eq_some_iff] at h
  obtain ⟨⟨ex, fr1, H1⟩, h3, h4⟩ := h
  simp only at h4
  split at h4
  · rename_i hm
    simp only [Tr.force_eq, Option.some.injEq, Prod.mk.injEq] at h4
    obtain ⟨rfl, rfl⟩ := h4
    refine runL_sim (run_sim hE hO n).1 l fr H .normal fr1 H1 m a w h3 hR hf fun a' w' m' hg hf' => ?_
    refine ⟨fun _ => ?_, fun h => absurd rfl h⟩
    have hlo : H1.lo = H.lo := hg.lo
    have hR' : Rel B H1.lo m' { objs := keepTr H1.objs kR Tr.nil, grps := keepTr H1.grps kG Tr.nil, next := H1.next, lo := H1.lo } w' := by
      rw [hlo]
      have := hg.rel.fewer (H' := { objs := keepTr H1.objs kR Tr.nil, grps := keepTr H1.grps kG Tr.nil, next := H1.next, lo := H1.lo }) (fun r o h => keepTr_nil h) (fun g l h => keepTr_nil h) rfl rfl
      simpa [hlo] using this
    have hfr : FrRel m' { T := keepTr fr1.T kT Tr.nil, size := fr1.size, marks := [], round := none } a' none := by
      refine ⟨fun t v hv => hf'.tmps t v (keepTr_nil hv), hf'.size, ?_, fun _ => rfl⟩
      have := hf'.marks
      rw [hm] at this
      exact this
    have := h2 B m' a' w' hR' hfr
    simp only [hlo] at this
    exact wpChain_mono (fun e a w hh => hh.old (hg.old hR)) _ _ _ this
  · simp at h4
theorem Ends.part (hE : EnvOk E) (hO : OrcOk E) {fn : Func} {L : List Code} {n a k b : Nat} {kT kR kG : List Nat} {fr fr2 : Fr} {H H2 : Heap} {v : Value} (h : chunkN E n ((L.drop a).take k) kT kR kG fr H = some (fr2, H2)) (hb : a + k = b) (h2 : Ends E fn (L.drop b) fr2 H2 v) : Ends E fn (L.drop a) fr H v := by
  have := Ends.chunk hE hO h h2
  rwa [← hb, ← List.drop_drop, List.take_append_drop] at this
theorem Ends.last (hE : EnvOk E) (hO : OrcOk E) {fn : Func} {n : Nat} {l : List Code} {fr : Fr} {H : Heap} {v : Value} (h : endN E n fn l fr H = some v) : Ends E fn l fr H v := by
  intro B m a w hR hf
  unfold endN at h
  simp only [Option.bind_eq_some_iff] at h
  obtain ⟨⟨ex, fr1, H1⟩, h3, h4⟩ := h
  have hex : ∀ id, ex ≠ .exit id := fun id he => by subst he; simp at h4
  have h5 : ∃ t vs, killMarks H.lo H1.objs fr1.marks = some t ∧ resultsV E { objs := t, grps := H1.grps, next := H1.next, lo := H1.lo } fr1.T fn.results.toList = some vs ∧ packV vs = v := by
    cases ex with
    | exit id => exact absurd rfl (hex id)
    | _ =>
      simp only [Option.bind_eq_some_iff, Option.some.injEq] at h4
      obtain ⟨t, h5, vs, h6, h7⟩ := h4
      exact ⟨t, vs, h5, h6, h7⟩
  obtain ⟨t, vs, h5, h6, h7⟩ := h5
  have := runL_sim (run_sim hE hO n).1 (Q := Fin E fn B H.lo w v) (l2 := []) l fr H ex fr1 H1 m a w h3 hR hf fun a' w' m' hg hf' => by
    have hfin : ∀ e, (e = .normal ∨ e = .ret) → Fin E fn B H.lo w v e a' w' := fun e he => ⟨he, hg.old hR, m', H1, fr1, t, vs, hg.lo, hg.rel, hf', h5, h6, h7⟩
    refine ⟨fun _ => hfin _ (.inl rfl), fun hn => ?_⟩
    cases ex with
    | normal => exact absurd rfl hn
    | ret => exact hfin _ (.inr rfl)
    | exit id => exact absurd rfl (hex id)
  simpa using this
theorem calls_of_ends (hE : EnvOk E) {g : FuncId} {fn : Func} {c : Code} {args : List Value} {args' : Array Value} {v : Value} (h1 : E.fn.get g = some fn) (h2 : fn.body = some c) (h3 : args.length ≤ fn.ntmps)
    (h : Ends E fn (flat c) { T := Tr.of args, size := fn.ntmps, marks := [], round := none } H v) (hv : ∀ m v', VRel m v v' → v' = v) (hR : Rel B H.lo m H w) (ha : LRel m args args'.toList) :
    Calls E.P g args' w fun e w' => e = .returned v ∧ Old B w w' := by
  rw [← callsIn_wide (n := 0)]
  have hf := hE.fn g fn h1
  refine callsIn_of_wp_marks hf h2 trivial ?_
  have hfr : FrRel m { T := Tr.of args, size := fn.ntmps, marks := [], round := none } { tmps := args' ++ Array.replicate (fn.ntmps - args'.size) undef, defers := [] } none := by
    refine ⟨fun t v hv => ?_, ?_, trivial, fun _ => rfl⟩
    · obtain ⟨v', e1, e2⟩ := ha.get (Tr.get_of hv)
      have : t < args'.size := by simpa using (List.getElem?_eq_some_iff.1 e1).1
      exact ⟨v', by rw [Array.getElem?_append_left this]; simpa using e1, e2⟩
    · have := ha.1
      simp at this ⊢; omega
  refine Go.wpIn_mono (wpIn_flat c (h B m _ w hR hfr)) fun e a' w' hp => ?_
  obtain ⟨he, hold, m', H', fr', t, vs, hl, hR', hf', hk, hr, hp⟩ := hp
  have hleave : LeavesInM Fence.wide 0 E.P fn a'.tmps (fun e w'' => e = .returned v ∧ Old B w w'') a'.defers .returning w' := by
    refine marks_leave (B := B) (lo0 := H.lo) fr'.marks a'.defers H' w' t hf'.marks hR' (by rw [hl]; exact hk) fun w'' hg' => ?_
    obtain ⟨v', r1, r2⟩ := results_sim hE hg'.rel hf'.tmps hr
    rw [hp] at r2
    refine ⟨v', r1, by rw [hv m' v' r2], hold.trans ?_⟩
    refine ⟨fun b hb => hg'.frame b (Nat.lt_of_lt_of_le hb hR'.base) fun r p hrp hlp hpb => ?_, hg'.size, hg'.os⟩
    have := (hR'.dom r p hrp).2.2.1 (by rw [← hl]; exact hlp)
    omega
  rcases he with rfl | rfl
  · exact hleave
  · exact hleave
end
section
variable {B lo0 : Nat} {m : Match} {w : World} {P : Program}
theorem plain_eq {v : Value} (h : plain1 v = true) : ∀ m v', VRel m v v' → v' = v := by
  intro m v' hv
  cases hv <;> first | rfl | simp [plain1] at h
end
section
variable [Maps] {B lo0 : Nat} {m : Match} {H : Heap} {w : World} {E : Env}
theorem rel_empty (w : World) (hg : GN ≤ w.heap.size ∧ GL w) : Rel w.heap.size 0 (fun _ => none) Heap.empty w where
  base := Nat.le_refl _
  glo := hg
  lo := Nat.le_refl _
  nxt := Nat.le_refl _
  dom r p h := by cases h
  obj r p o h := by cases h
  sep r r' p p' o o' _ _ h := by cases h
  tip r r' p p' c c' g z z' h := by cases h
  old r p c g z h := by cases h
  ends r r' p p' c c' g z z' t h := by cases h
  grp r p c g z t h := by cases h
def Env.with (E : Env) (o : Caller) : Env := { P := E.P, ty := E.ty, fn := E.fn, orc := o }
theorem EnvOk.with (hE : EnvOk E) (o : Caller) : EnvOk (E.with o) := { hE with }
end
end Go.AM

namespace Go.AM
section
variable [Maps] {B lo0 : Nat} {m : Match} {H : Heap} {w : World} {E : Env}
structure WGrown (w w' : World) : Prop where
  blk : ∀ b, b < w.heap.size → w'.heap[b]? = w.heap[b]?
  size : w.heap.size ≤ w'.heap.size
  os : w'.os = w.os ∧ w'.output = w.output
theorem Good.grown (hR : Rel B lo0 m H w) {w' : World} (h : WGrown w w') : Good B lo0 m H w m H w' := by
  have hR' : Rel B lo0 m H w' := hR.hold h.size (fun b hb => h.blk b (Nat.lt_of_lt_of_le hb hR.base)) (fun r p o hr _ => h.blk _ (hR.dom r p hr).2.1) (fun r o h => h) rfl rfl hR.lo hR.nxt
  exact ⟨m.le_refl, hR', fun _ _ h => .inl h, fun r p h h' => (by rw [h] at h'; cases h'), Nat.le_refl _, rfl, fun b hb _ => h.blk b hb, h.size, fun _ _ _ h => h, h.os⟩
theorem Good.adopt (hR : Rel B lo0 m H w) {w' : World} (h : WGrown w w') {N : Nat} {C : Array Value} {e : TypeId} (hN : w.heap.size ≤ N) (hw : w'.heap[N]? = some (.cells C e (0, 0))) {cells : List Value} (hc : ∀ (i : Nat) v, cells[i]? = some v → ∃ v', C[i]? = some v' ∧ VRel m v v') (hl : cells.length ≤ C.size) :
    Good B lo0 m H w (AM.upd m H.next ⟨N, 0, C.size, true, 0⟩) (H.newRow cells) w' := by
  have hlt : N < w'.heap.size := (Array.getElem?_eq_some_iff.1 hw).1
  refine Good.adds hR (.row cells none true) _ hN hlt h.blk h.size h.os ⟨⟨C, e, (0, 0), hw, rfl, fun _ i _ h => by simp at h, by simpa using hl, fun i v hv => ?_⟩, rfl, fun g z h => by cases h⟩
    (add_next H _) (add_lo H _) (fun j x => get_add) (fun g l h => .inr (by rw [← add_grps H (.row cells none true)]; exact h)) (fun c g z t h => by simp at h)
  obtain ⟨v', h1, h2⟩ := hc i v hv
  exact ⟨v', by simpa using h1, h2.mono (upd_le _ hR.none_of_next)⟩
structure Told where
  g : FuncId
  f : List Value → Heap → Option (Value × Heap)
def orcT (l : List Told) : Caller := fun f args H =>
  match f with
  | .func (.func g) first captured =>
    bif first.toList.isEmpty && captured.toList.isEmpty then (match l.find? fun x => Nat.beq x.g g with
      | some x => x.f args H
      | none => none) else none
  | _ => none
structure ToldOk (E : Env) (x : Told) : Prop where
  body : ∃ fn c, E.fn.get x.g = some fn ∧ fn.body = some c
  low : ∀ args H v H', H.lo ≤ H.next → x.f args H = some (v, H') → Low H H'
  sim : ∀ B lo0 m H w args (args' : Array Value) v H', x.f args H = some (v, H') → LRel m args args'.toList → Rel B lo0 m H w → Calls E.P x.g args' w fun e w' => ∃ v' m', e = .returned v' ∧ Good B lo0 m H w m' H' w' ∧ VRel m' v v'
theorem orcT_ok (hE : EnvOk E) {l : List Told} (h : ∀ x ∈ l, ToldOk E x) : OrcOk (E.with (orcT l)) := by
  have inv : ∀ {f : Value} {args : List Value} {H : Heap} {v : Value} {H' : Heap}, orcT l f args H = some (v, H') → ∃ x ∈ l, f = .func (.func x.g) #[] #[] ∧ x.f args H = some (v, H') := by
    intro f args H v H' hh
    unfold orcT at hh
    split at hh
    · rename_i g first captured
      obtain ⟨h1, h2⟩ := beq_cond hh
      split at h2
      · rename_i x hx
        simp only [Bool.and_eq_true, List.isEmpty_iff] at h1
        have hg : x.g = g := by simpa using List.find?_some hx
        refine ⟨x, List.mem_of_find?_eq_some hx, ?_, h2⟩
        rw [hg]
        have e1 : first = #[] := Array.toList_eq_nil_iff.1 h1.1
        have e2 : captured = #[] := Array.toList_eq_nil_iff.1 h1.2
        rw [e1, e2]
      · simp at h2
    · simp at hh
  refine ⟨fun B lo0 f args H v H' hh m w f' args' hf ha hR => ?_, fun f args H v H' hlo hh => ?_⟩
  · obtain ⟨x, hx, rfl, hf2⟩ := inv hh
    obtain ⟨⟨fn, c, h1, h2⟩, _, hc⟩ := h x hx
    cases hf with
    | func hfr hfa hfb ra rb =>
      rename_i f₁ first' captured'
      simp only [FnRel] at hfr
      subst hfr
      have e1 : first' = #[] := Array.toList_eq_nil_iff.1 (LRel.inv_nil (m := m) ⟨hfa, ra⟩)
      have e2 : captured' = #[] := Array.toList_eq_nil_iff.1 (LRel.inv_nil (m := m) ⟨hfb, rb⟩)
      subst e1 e2
      have hrn : (callFunc x.g args').run E.P w = .ok (.enter x.g args') w := by
        simp only [callFunc, Sem.run_bind, run_program, Result.andThen_ok, hE.fn x.g fn h1, hE.num x.g fn h1, h2, Bool.false_eq_true, if_false, Option.isNone_some, Sem.run_pure]
      have : (do let d ← Deferred.ofValue (.func (.func x.g) #[] #[]) args'; invoke d.target d.args : Sem Next).run (E.with (orcT l)).P w = .ok (.enter x.g args') w := by
        simp only [Deferred.ofValue, Sem.run_bind, Sem.run_pure, Result.andThen_ok, invoke, Array.empty_append, Array.append_empty]
        exact hrn
      rw [this]
      show CallsIn Fence.wide 0 E.P x.g args' w _
      rw [callsIn_wide]
      exact (hc B lo0 m H w args args' v H' hf2 ha hR).mono fun e w' ⟨v', m', he, hg, hv⟩ => ⟨v', he, m', hg, hv⟩
  · obtain ⟨x, hx, _, hf2⟩ := inv hh
    exact (h x hx).low _ _ _ _ hlo hf2
end
end Go.AM

namespace Go.AM
section
variable [Maps] {B lo0 : Nat} {m : Match} {H : Heap} {w : World} {E : Env}
def eqNatO : Option Nat → Option Nat → Bool
  | none, none => true
  | some a, some b => Nat.beq a b
  | _, _ => false
def eqAddr : Option Addr → Option Addr → Bool
  | none, none => true
  | some ⟨b, o, none⟩, some ⟨b', o', none⟩ => Nat.beq b b' && Nat.beq o o'
  | _, _ => false
def eqFn : Fn → Fn → Bool
  | .func a, .func b => Nat.beq a b
  | _, _ => false
mutual
def eqVal : Nat → Value → Value → Bool
  | 0, _, _ => false
  | n + 1, a, b =>
    match a, b with
    | .bool x, .bool y => (match x, y with
      | true, true => true
      | false, false => true
      | _, _ => false)
    | .int k x, .int k' y => sameKind k k' && eqI x y
    | .string s, .string t => eqBytes s t
    | .pointer x, .pointer y => eqAddr x y
    | .slice x l c, .slice y l' c' => eqAddr x y && Nat.beq l l' && Nat.beq c c'
    | .map x, .map y => eqNatO x y
    | .nilFunc, .nilFunc => true
    | .nilIface, .nilIface => true
    | .func f x y, .func f' x' y' => eqFn f f' && eqVals n x.toList x'.toList && eqVals n y.toList y'.toList
    | .iface t v, .iface t' v' => Nat.beq t t' && eqVal n v v'
    | .agg x, .agg y => eqVals n x.toList y.toList
    | .tuple x, .tuple y => eqVals n x.toList y.toList
    | _, _ => false
def eqVals : Nat → List Value → List Value → Bool
  | 0, _, _ => false
  | n + 1, x, y =>
    match x, y with
    | [], [] => true
    | a :: l, b :: r => eqVal n a b && eqVals n l r
    | _, _ => false
end
end
section
variable {B lo0 : Nat} {m : Match} {w : World} {P : Program}
end
section
variable [Maps] {B lo0 : Nat} {m : Match} {H : Heap} {w : World} {E : Env}
structure Known where
  g : FuncId
  args : List Value
  objs : List (Nat × AObj)
  grps : List (Nat × List Nat)
  next : Nat
  lo : Nat
  v : Value
  H : Heap
def Known.heap (k : Known) : Heap := { objs := Tr.pairs k.objs, grps := Tr.pairs k.grps, next := k.next, lo := k.lo }
structure KOk (P : Program) (k : Known) : Prop where
  sim : ∀ B lo0 m w (args' : Array Value), LRel m k.args args'.toList → Rel B lo0 m k.heap w →
    UpTo P (fun v' w' => ∃ m', Good B lo0 m k.heap w m' k.H w' ∧ VRel m' k.v v') ((do let d ← Deferred.ofValue (.func (.func k.g) #[] #[]) args'; invoke d.target d.args : Sem Next).run P w)
  low : k.lo ≤ k.next → Low k.heap k.H
theorem Good.fewer {m' : Match} {H' H2 : Heap} {w' : World} (h : Good B lo0 m H w m' H' w') (ho : ∀ r o, H2.objs.get r = some o → H'.objs.get r = some o) (hg : ∀ g l, H2.grps.get g = some l → H'.grps.get g = some l) (hn : H2.next = H'.next) (hl : H2.lo = H'.lo) : Good B lo0 m H w m' H2 w' :=
  ⟨h.le, h.rel.fewer ho hg hn hl, h.new, h.blk, by rw [hn]; exact h.nxt, hl.trans h.lo, h.frame, h.size, fun r o hr hx => h.low r o hr (ho r o hx), h.os⟩
end
end Go.AM

