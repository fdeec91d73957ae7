/-
  An abstract machine for the programs of this model, and that what it tells the model comes to: texts reckoned backwards over letters.
-/
import Derived.Test.YtbpneihjlledpaaGreatDoorAMk
import Derived.OpenShut
import Derived.ProofKit
import Derived.Carry
import Derived.HandedShaped
import Derived.Shelf.Vars
import Derived.Lib.LaidTab
import Derived.Stop.LaidErr
import Derived.LaidMore
import Derived.ChangeArms
import Derived.WideShapes
set_option linter.unusedSimpArgs false
set_option linter.unusedVariables false
set_option linter.unusedSectionVars false
namespace Go.AM
open Go.ChangeShapes Go.WideShapes Go.ChangeAt Go.RowKit
section
variable {H : Type} {enc : TypeId × Value → H} {P : Program}
theorem Old.keptBut {W W' : World} (h : Old W.heap.size W W') (may : MemPlace → Prop) : W.keptBut W' may := by
  refine ⟨h.os.1, h.os.2, fun i hi => ?_⟩
  rw [h.blk i hi]
  cases W.heap[i]? with
  | none => rfl
  | some o => cases o <;> simp
theorem Old.sameAt {W W' : World} (h : Old W.heap.size W W') {p : MemPlace} (hp : p.block < W.heap.size) : W.sameAt W' p := by
  cases p with
  | cell b off => exact World.cell?_of_block (h.blk b hp)
  | map b => exact h.blk b hp
theorem trodAll_stays (hl : laidOutB P = true) {W W' : World} (ho : Old W.heap.size W W') : ∀ {ts : List TypeId} {vs : List Value} {ds : List (DataW H)} {ps : List MemPlace}, (∀ t ∈ ts, P.readableRec t = true ∧ t < P.types.size) →
    DataW.TrodAll enc P W 0 (fun _ => true) true ts vs ds ps → (∀ p ∈ ps, p.block < W.heap.size) → DataW.TrodAll enc P W' 0 (fun b => decide (b < W.heap.size)) true ts vs ds ps
  | [], _, _, _, _, h, _ => by
    obtain ⟨rfl, rfl, rfl⟩ := trodAll_nil h
    rfl
  | t :: ts, _, _, _, hr, h, hp => by
    obtain ⟨v, vs1, d, ds1, a, b, rfl, rfl, rfl, h1, h2⟩ := trodAll_cons h
    refine trodAll_cons_mk (WideElems.Trod_stays hl (hr t (List.mem_cons_self ..)).1 (hr t (List.mem_cons_self ..)).2 h1 (fun p hpa => ho.sameAt (hp p (List.mem_append_left _ hpa))) fun p hpa => by simpa using hp p (List.mem_append_left _ hpa)) ?_
    exact trodAll_stays hl ho (fun t ht => hr t (List.mem_cons_of_mem _ ht)) h2 fun p hpb => hp p (List.mem_append_right _ hpb)
end
end Go.AM

namespace Go.AM
open Go.ChangeShapes Go.WideShapes Go.ChangeAt Go.RowKit
theorem law_laid {C : Checked} {os : Os} {H : Type} {enc : TypeId × Value → H} {s : ChangeSpec} {f : FuncId} {fn : Func} {conds : List PathCond} {X : World → Array Value → Prop} (hX : ∀ (w w' : World) (args : Array Value), w.heap = w'.heap → X w args → X w' args)
    (own : ownKnob C.prog.godebug = none) (started : os.Started) (noInit : C.prog.inits.idxOf? f = none) (hfn : C.prog.funcs[f]? = some fn)
    (witness : ∃ (w : World) (tape : Tape) (i : Input), w.os = os ∧ (w.forCall tape i).Shaped C.prog ∧ i.vars = [] ∧ Input.okWide C.prog (w.forCall tape i) .any w.heap.size f i ∧
      ((s.pre enc C.prog fn conds false (w.forCall tape i).memory i.args ∧ X (w.forCall tape i).memory i.args) ∧ sizedMet enc C.prog fn (OpenSpec.ofChange s) false (w.forCall tape i).memory i.args) ∧ ({} : Assume).holds C.prog (lone (Frame.enter C.prog f i.args .normal) [] (w.forCall tape i)))
    (hvars : s.vars = []) (hs : ∀ ds : List (DataW H), ds.length = fn.params.size → s.fn H ds = { results := [.lit (.bool true)], args := ds }) {tb : TypeId} (hres : fn.resultTypes = #[tb]) (htb : C.prog.underlying tb = some .bool)
    (hlaid : laidOutB C.prog = true) (hread : fn.params.toList.all (fun t => C.prog.readableRec t && decide (t < C.prog.types.size)) = true)
    (calls : ∀ (W : World) (base : Nat) (args : Array Value) (ds : List (DataW H)) (before : List MemPlace), (∀ (j : Nat) t v, fn.params[j]? = some t → args[j]? = some v → Value.okWide C.prog W .any base t v) →
      DataW.TrodAll enc C.prog W 0 (fun _ => true) true fn.params.toList args.toList ds before → (∀ p ∈ before, p.block < W.heap.size) → W.noneFrozen before → X W args → W.ShapedOpen C.prog →
      Calls C.prog f args W fun e W' => e = .returned (.bool true) ∧ Old W.heap.size W W') :
    ReturnsInHanded {} C os f .any (fun w args => (s.pre enc C.prog fn conds false w args ∧ X w args) ∧ sizedMet enc C.prog fn (OpenSpec.ofChange s) false w args) (s.post enc C.prog fn false true false false) := by
  refine returnsInHanded_of_calls own started noInit witness ?_
  intro w tape i _ hsh _ hok hpre _
  obtain ⟨_, _, _, fn', hfn', _, _, _, _, hval⟩ := hok
  obtain rfl : fn' = fn := Option.some.inj (hfn'.symm.trans hfn)
  obtain ⟨⟨⟨ds, gs, before, hw, _⟩, hx⟩, _⟩ := hpre
  have hW := DataW.Whole.of_heap (w' := w.forCall tape i) (by rfl) hw
  have hxw : X (w.forCall tape i) i.args := hX _ _ _ (by rfl) hx
  generalize w.forCall tape i = W at hW hxw hval hsh
  generalize i.args = args at *
  obtain ⟨p, q, hA, hV, rfl, hfz, hnd⟩ := hW
  have hW' : DataW.Whole enc C.prog fn'.params.toList s.vars false W args.toList ds gs (p ++ q) := ⟨p, q, hA, hV, rfl, hfz, hnd⟩
  rw [hvars] at hV
  obtain ⟨rfl, rfl⟩ := trodVars_none hV
  simp only [List.append_nil] at hW' hfz
  have hlt : ∀ x ∈ p, x.block < W.heap.size := fun x hx => by simpa using hW'.lt x hx
  refine (calls W _ args ds p hval hA hlt hfz hxw hsh).mono fun e W' ⟨he, ho⟩ => ?_
  subst he
  have hlen : ds.length = fn'.params.size := by
    have key : ∀ {ts : List TypeId} {vs : List Value} {ds : List (DataW H)} {ps : List MemPlace}, DataW.TrodAll enc C.prog W 0 (fun _ => true) true ts vs ds ps → ds.length = ts.length := by
      intro ts
      induction ts with
      | nil => intro vs ds ps h; obtain ⟨_, rfl, _⟩ := trodAll_nil h; rfl
      | cons t ts ih =>
        intro vs ds ps h
        obtain ⟨v, vs1, d, ds1, a, b, rfl, rfl, rfl, h1, h2⟩ := trodAll_cons h
        simp [ih h2]
    have := key hA
    simpa using this
  have hr : ∀ t ∈ fn'.params.toList, C.prog.readableRec t = true ∧ t < C.prog.types.size := fun t ht => by
    have := List.all_eq_true.1 hread t ht
    simpa using this
  refine ChangeSpec.post_blind ⟨ds, [], p, [], p, [], hW', ?_, ?_, ?_, ?_, fun h => by cases h⟩
  · rw [List.append_nil, hs ds hlen, hres]
    exact trodAll_cons_mk (shut_bool htb _) trodAll_mk0
  · rw [List.append_nil, hs ds hlen]
    exact trodAll_stays hlaid ho hr hA hlt
  · rw [List.append_nil, hs ds hlen, hvars]
    rfl
  · exact ho.keptBut _
end Go.AM

namespace Go.AM
open Go.ChangeShapes Go.WideShapes
end Go.AM

namespace Go.AM
section
variable [Maps] {E : Env}
def LeR (r₁ r₂ : Code → Fr → Heap → Option (Ex × Fr × Heap)) : Prop := ∀ c fr H x, r₁ c fr H = some x → r₂ c fr H = some x
def LeC (c₁ c₂ : Caller) : Prop := ∀ f args H x, c₁ f args H = some x → c₂ f args H = some x
theorem mono_exOp {c₁ c₂ : Caller} (hc : LeC c₁ c₂) {T : Tr Value} {o : Oper} {H : Heap} {x : Value × Heap} (h : exOp E c₁ T o H = some x) : exOp E c₂ T o H = some x := by
  unfold exOp at h ⊢
  cases ho : o.op <;> simp only [ho] at h ⊢
  case call c =>
    simp only [Option.bind_eq_some_iff] at h
    obtain ⟨args, h1, h⟩ := h
    simp only [h1, Option.bind_some]
    cases hcal : c.callee with
    | builtin b => simp only [hcal] at h ⊢; exact h
    | value f =>
      simp only [hcal, Option.bind_eq_some_iff] at h ⊢
      obtain ⟨fv, h2, h3⟩ := h
      exact ⟨fv, h2, hc _ _ _ _ h3⟩
    | invoke y name =>
      simp only [hcal, Option.bind_eq_some_iff] at h ⊢
      obtain ⟨xv, h2, mm, h3, h4⟩ := h
      exact ⟨xv, h2, mm, h3, hc _ _ _ _ h4⟩
  case makeMap t r => cases r <;> exact h
  case next y b => cases b <;> exact h
  all_goals exact h
theorem mono_exOps {c₁ c₂ : Caller} (hc : LeC c₁ c₂) {all : List Oper} {size : Nat} : ∀ {l : List Oper} {T : Tr Value} {H : Heap} {x : Tr Value × Heap}, exOps E c₁ all size l T H = some x → exOps E c₂ all size l T H = some x
  | [], _, _, _, h => h
  | o :: l, T, H, x, h => by
    simp only [exOps, forceH_eq] at h ⊢
    split at h
    · simp at h
    · rename_i hw
      simp only [Option.bind_eq_some_iff] at h
      obtain ⟨r, h1, T1, h2, h3⟩ := h
      simp only [hw, mono_exOp hc h1, Option.bind_some, h2]
      exact mono_exOps hc h3
    · rename_i hw
      simp only [Option.bind_eq_some_iff] at h
      obtain ⟨T1, h2, h3⟩ := h
      simp only [hw, h2, Option.bind_some]
      exact mono_exOps hc h3
theorem mono_exDraw {c₁ c₂ : Caller} (hc : LeC c₁ c₂) {all : List Oper} {size : Nat} : ∀ {l : List Oper} {infos : List Info} {T : Tr Value} {H : Heap} {x : Tr Value × Heap}, exDraw E c₁ all size l infos T H = some x → exDraw E c₂ all size l infos T H = some x
  | [], _, _, _, _, h => h
  | o :: l, [], T, H, x, h => by simp [exDraw] at h
  | o :: l, i :: infos, T, H, x, h => by
    simp only [exDraw, forceH_eq] at h ⊢
    split at h
    · simp at h
    · rename_i hw
      obtain ⟨ha, h⟩ := beq_cond h
      simp only [Option.bind_eq_some_iff] at h
      obtain ⟨r, h1, h⟩ := h
      obtain ⟨hk, h⟩ := beq_cond h
      simp only [Option.bind_eq_some_iff] at h
      obtain ⟨T1, h2, h3⟩ := h
      simp only [hw, ha, cond_true, mono_exOp hc h1, Option.bind_some, hk, h2]
      exact mono_exDraw hc h3
    · rename_i hw
      simp only [Option.bind_eq_some_iff] at h
      obtain ⟨T1, h2, h3⟩ := h
      simp only [hw, h2, Option.bind_some]
      exact mono_exDraw hc h3
theorem mono_drawV {c₁ c₂ : Caller} (hc : LeC c₁ c₂) {ops : Array Oper} {size : Nat} {T : Tr Value} {H : Heap} {x : Tr Value × Heap} (h : drawV E c₁ ops size T H = some x) : drawV E c₂ ops size T H = some x := by
  unfold drawV at h ⊢
  obtain ⟨h0, h⟩ := bne_cond h
  simp only [Option.bind_eq_some_iff] at h
  obtain ⟨infos, h1, r, h2, h3⟩ := h
  simp only [h0, cond_false, h1, Option.bind_some, mono_exDraw hc h2]
  exact h3
theorem mono_callBody {r₁ r₂ : Code → Fr → Heap → Option (Ex × Fr × Heap)} (hr : LeR r₁ r₂) : LeC (callBody E r₁) (callBody E r₂) := by
  intro f args H x h
  simp only [callBody, Option.bind_eq_some_iff] at h ⊢
  obtain ⟨p, h1, h⟩ := h
  refine ⟨p, h1, ?_⟩
  split at h
  · simp only [Option.bind_eq_some_iff] at h ⊢
    obtain ⟨fn, k1, h⟩ := h
    refine ⟨fn, k1, ?_⟩
    split at h
    · exact h
    rename_i hb
    obtain ⟨k3, h⟩ := bne_cond h
    simp only [Option.bind_eq_some_iff] at h
    obtain ⟨r, k4, h⟩ := h
    simp only [hb, k3, cond_false, hr _ _ _ _ k4, Option.bind_some]
    exact h
  · split at h
    · rename_i hobj
      obtain ⟨k1, h⟩ := bne_cond h
      simp only [Option.bind_eq_some_iff] at h
      obtain ⟨T', k2, r, k3, h⟩ := h
      simp only [hobj, k1, cond_false, k2, Option.bind_some, hr _ _ _ _ k3]
      split at h
      · rename_i he
        simp only [Option.bind_eq_some_iff] at h
        obtain ⟨H2, k4, r2, k5, h⟩ := h
        simp only [he, k4, Option.bind_some, hr _ _ _ _ k5]
        exact h
      · simp at h
    · simp at h
  · simp at h
theorem mono_callWith {r₁ r₂ : Code → Fr → Heap → Option (Ex × Fr × Heap)} (hr : LeR r₁ r₂) : LeC (callWith E r₁) (callWith E r₂) := by
  intro f args H x h
  unfold callWith at h ⊢
  cases ho : E.orc f args H with
  | some r => rw [ho] at h; exact h
  | none => rw [ho] at h; exact mono_callBody hr _ _ _ _ h
theorem mono_runHead {r₁ r₂ : Code → Fr → Heap → Option (Ex × Fr × Heap)} (hr : LeR r₁ r₂) {v : Value} : ∀ (c : Code) {fr : Fr} {H : Heap} {x : Ex × Fr × Heap}, runHead E r₁ v c fr H = some x → runHead E r₂ v c fr H = some x
  | .seq a b, fr, H, x, h => by
    simp only [runHead, Option.bind_eq_some_iff] at h ⊢
    obtain ⟨r, h1, h2⟩ := h
    refine ⟨r, mono_runHead hr a h1, ?_⟩
    split at h2
    · exact hr _ _ _ _ h2
    · exact h2
  | .region id ops d, fr, H, x, h => by
    simp only [runHead] at h ⊢
    split at h
    · rename_i hl
      simp only [hl, Option.bind_eq_some_iff] at h ⊢
      obtain ⟨T, h1, r, h2, h3⟩ := h
      exact ⟨T, h1, r, mono_exOps (mono_callWith hr) h2, h3⟩
    · simp at h
  | .skip, _, _, _, h | .cond .., _, _, _, h | .block .., _, _, _, h | .loop .., _, _, _, h | .rangeFunc .., _, _, _, h | .exit .., _, _, _, h | .scope .., _, _, _, h
  | .label .., _, _, _, h | .goto .., _, _, _, h | .ret, _, _, _, h | .refuse .., _, _, _, h => by simp [runHead] at h
theorem mono_roundsV {r₁ r₂ : Code → Fr → Heap → Option (Ex × Fr × Heap)} (hr : LeR r₁ r₂) {c : Code} {fr : Fr} {H : Heap} {r : Nat} {m : Option Nat} {n : Nat} : ∀ {es : List (Value × Value)} {i : Nat} {acc o : Option (List (Tmp × Value))}, roundsV E r₁ c fr H r m n es i acc = some o → roundsV E r₂ c fr H r m n es i acc = some o
  | [], _, _, _, h => h
  | e :: es, i, acc, o, h => by
    simp only [roundsV] at h ⊢
    split at h
    · rename_i hrun
      rw [mono_runHead hr c hrun]
      obtain ⟨k, h⟩ := beq_cond h
      simp only [k, cond_true]
      split at h
      · exact mono_roundsV hr h
      · exact mono_roundsV hr h
      · simp at h
    · simp at h
theorem mono_runWith {r₁ r₂ : Code → Fr → Heap → Option (Ex × Fr × Heap)} (hr : LeR r₁ r₂) : LeR (runWith E r₁) (runWith E r₂) := by
  intro c fr H x h
  cases c with
  | region id ops d =>
    cases d with
    | false =>
      simp only [runWith, Option.bind_eq_some_iff] at h ⊢
      obtain ⟨r, h1, h2⟩ := h
      exact ⟨r, mono_exOps (mono_callWith hr) h1, h2⟩
    | true =>
      simp only [runWith, Option.bind_eq_some_iff] at h ⊢
      obtain ⟨r, h1, h2⟩ := h
      exact ⟨r, mono_drawV (mono_callWith hr) h1, h2⟩
  | seq a b =>
    simp only [runWith, Option.bind_eq_some_iff] at h ⊢
    obtain ⟨r, h1, h2⟩ := h
    refine ⟨r, hr _ _ _ _ h1, ?_⟩
    split at h2
    · exact hr _ _ _ _ h2
    · exact h2
  | cond x a b =>
    simp only [runWith, Option.bind_eq_some_iff] at h ⊢
    obtain ⟨v, h1, h2⟩ := h
    refine ⟨v, h1, ?_⟩
    split at h2
    · exact hr _ _ _ _ h2
    · exact hr _ _ _ _ h2
    · simp at h2
  | block id a =>
    simp only [runWith, Option.bind_eq_some_iff] at h ⊢
    obtain ⟨r, h1, h2⟩ := h
    exact ⟨r, hr _ _ _ _ h1, h2⟩
  | loop a =>
    simp only [runWith] at h ⊢
    cases hh : headNext a with
    | some it =>
      rw [hh] at h
      simp only at h ⊢
      cases hg : onG fr.T H it with
      | true =>
        rw [hg] at h
        simp only [cond_true] at h ⊢
        unfold fewLoop at h ⊢
        simp only [Option.bind_eq_some_iff] at h ⊢
        obtain ⟨r, h1, h2⟩ := h
        refine ⟨r, hr _ _ _ _ h1, ?_⟩
        split at h2
        · simp only [Option.bind_eq_some_iff] at h2 ⊢
          obtain ⟨r2, h3, h4⟩ := h2
          exact ⟨r2, hr _ _ _ _ h3, h4⟩
        · exact h2
      | false =>
      rw [hg] at h
      simp only [cond_false] at h ⊢
      unfold mapLoop at h ⊢
      simp only [Tr.force_eq, Option.bind_eq_some_iff] at h ⊢
      obtain ⟨itv, h1, h⟩ := h
      refine ⟨itv, h1, ?_⟩
      split at h
      · split at h
        · rename_i ho
          simp only [ho, Option.bind_eq_some_iff] at h ⊢
          obtain ⟨es, h2, h⟩ := h
          obtain ⟨k, h⟩ := bne_cond h
          simp only [Option.bind_eq_some_iff] at h
          obtain ⟨o, k2, h⟩ := h
          refine ⟨es, h2, ?_⟩
          simp only [k, cond_false, mono_roundsV hr k2, Option.bind_some]
          cases o with
          | some vs => exact h
          | none =>
            simp only [Option.bind_eq_some_iff] at h ⊢
            obtain ⟨r, h3, h4⟩ := h
            exact ⟨r, mono_runHead hr _ h3, h4⟩
        · simp at h
      · simp at h
    | none =>
      rw [hh] at h
      simp only [Option.bind_eq_some_iff] at h ⊢
      obtain ⟨r, h1, h2⟩ := h
      refine ⟨r, hr _ _ _ _ h1, ?_⟩
      split at h2
      · exact hr _ _ _ _ h2
      · exact h2
  | scope a => exact hr _ _ _ _ h
  | rangeFunc g ps a b =>
    simp only [runWith] at h ⊢
    split at h
    · simp at h
    · rename_i hro
      simp only [Option.bind_eq_some_iff] at h ⊢
      obtain ⟨gv, h1, h⟩ := h
      refine ⟨gv, h1, ?_⟩
      unfold rangeV at h ⊢
      simp only at h ⊢
      split at h
      · simp only [Option.bind_eq_some_iff] at h ⊢
        obtain ⟨r, h2, h3⟩ := h
        refine ⟨r, mono_callBody hr _ _ _ _ h2, ?_⟩
        split at h3
        · split at h3
          · simp at h3
          · rename_i hst
            split at h3
            · exact h3
            · split at h3
              · exact hr _ _ _ _ h3
              · exact hr _ _ _ _ h3
              · simp at h3
        · simp at h3
      · simp at h
  | _ => exact h
theorem run_succ : ∀ n, LeR (run E n) (run E (n + 1))
  | 0 => fun c fr H x h => by simp [run] at h
  | n + 1 => mono_runWith (run_succ n)
theorem run_mono {n n' : Nat} (h : n ≤ n') : LeR (run E n) (run E n') := by
  induction h with
  | refl => exact fun _ _ _ _ h => h
  | step _ ih => exact fun c fr H x h => run_succ _ c fr H x (ih c fr H x h)
end
end Go.AM

namespace Go.AM
inductive Tok where
  | go
  | stop
def Pf {α : Type} (_ : α) : Prop := True
theorem pf {α : Type} {a : α} : Pf a := trivial
def optP {α : Type} (_ : Tok) (o : Option α) (k : Tok → α → Prop) : Prop := ∃ a, o = some a ∧ k .go a
theorem optP_some {α : Type} (a : α) (k : Tok → α → Prop) : optP .go (some a) k = k .go a := by simp [optP]
theorem optP_none {α : Type} (k : Tok → α → Prop) : optP .go (none : Option α) k = False := by simp [optP]
@[congr] theorem optP_congr {α : Type} {t : Tok} {o o' : Option α} {k : Tok → α → Prop} (h : o = o') : optP t o k = optP t o' k := by rw [h]
def boolP (c : Bool) (P R : Tok → Prop) : Prop := (c = true → P .go) ∧ (c = false → R .go)
theorem boolP_true (P R : Tok → Prop) : boolP true P R = P .go := by simp [boolP]
theorem boolP_false (P R : Tok → Prop) : boolP false P R = R .go := by simp [boolP]
@[congr] theorem boolP_congr {c c' : Bool} {P R : Tok → Prop} (h : c = c') : boolP c P R = boolP c' P R := by rw [h]
def asBoolP (v : Value) (P R : Tok → Prop) : Prop :=
  match v with
  | .bool c => boolP c P R
  | _ => False
@[congr] theorem asBoolP_congr {c c' : Value} {P R : Tok → Prop} (h : c = c') : asBoolP c P R = asBoolP c' P R := by rw [h]
theorem asBoolP_bool (c : Bool) (P R : Tok → Prop) : asBoolP (.bool c) P R = boolP c P R := Eq.trans rfl rfl
section
variable [Maps]
def CallA (E : Env) (f : Value) (args : List Value) (H : Heap) (K : Value → Heap → Prop) : Prop := ∃ n v H', callWith E (run E n) f args H = some (v, H') ∧ K v H'
def WPS (E : Env) (sz : Nat) (c : Code) (T : Tr Value) (mk : List Nat) (ro : Option Nat) (H : Heap) (Q : Ex → Tr Value → List Nat → Heap → Prop) : Prop :=
  ∃ n ex T' mk' H', run E n c { T, size := sz, marks := mk, round := ro } H = some (ex, { T := T', size := sz, marks := mk', round := ro }, H') ∧ Q ex T' mk' H'
def OP (_ : Tok) (E : Env) (T : Tr Value) (o : Op) (H : Heap) (K : Tok → Value → Heap → Prop) : Prop := ∃ n v H', exOp E (callWith E (run E n)) T { dst := none, op := o, type := 0, pos := default, after := #[], guard := none } H = some (v, H') ∧ K .go v H'
def resP (_ : Tok) (o : Option (Value × Heap)) (K : Tok → Value → Heap → Prop) : Prop := ∃ v H', o = some (v, H') ∧ K .go v H'
theorem resP_some (v : Value) (H : Heap) (K : Tok → Value → Heap → Prop) : resP .go (some (v, H)) K = K .go v H := by
  simp only [resP, Option.some.injEq, Prod.mk.injEq, eq_iff_iff]
  exact ⟨fun ⟨_, _, ⟨h1, h2⟩, h⟩ => by rw [h1, h2]; exact h, fun h => ⟨_, _, ⟨rfl, rfl⟩, h⟩⟩
@[congr] theorem resP_congr {t : Tok} {o o' : Option (Value × Heap)} {K : Tok → Value → Heap → Prop} (h : o = o') : resP t o K = resP t o' K := by rw [h]
def putP (_ : Tok) (sz : Nat) (T : Tr Value) (dst : Option Tmp) (v : Value) (k : Tok → Tr Value → Prop) : Prop :=
  match dst with
  | none => k .go T
  | some d => d < sz ∧ k .go (T.set d v)
def wpOps (_ : Tok) (E : Env) (all : List Oper) (_ : Pf all) (sz : Nat) : (l : List Oper) → Pf l → Tr Value → Heap → (Tok → Tr Value → Heap → Prop) → Prop
  | [], _, T, H, K => K .go T H
  | o :: rest, _, T, H, K =>
    optP .go (wantedA T all o) fun _ b => boolP b (fun t => OP t E T o.op H fun t v H' => putP t sz T o.dst v fun t T' => wpOps t E all pf sz rest pf T' H' K) (fun t => putP t sz T o.dst undef fun t T' => wpOps t E all pf sz rest pf T' H K)
def exP (_ : Tok) (id : Nat) (ex : Ex) (P : Tok → Prop) (Q : Tok → Ex → Prop) : Prop :=
  match ex with
  | .exit i => (i = id ∧ P .go) ∨ (i ≠ id ∧ Q .go (.exit i))
  | e => Q .go e
def seqP (_ : Tok) (ex : Ex) (P : Tok → Prop) (Q : Tok → Ex → Prop) : Prop :=
  match ex with
  | .normal => P .go
  | e => Q .go e
def wp (_ : Tok) (E : Env) (sz : Nat) : (c : Code) → Pf c → Tr Value → List Nat → Option Nat → Heap → (Tok → Ex → Tr Value → List Nat → Heap → Prop) → Prop
  | .skip, _, T, mk, _, H, Q => Q .go .normal T mk H
  | .label _, _, T, mk, _, H, Q => Q .go .normal T mk H
  | .region id ops draw, _, T, mk, ro, H, Q => match draw with
    | false => wpOps .go E ops.toList pf sz ops.toList pf T H fun t T' H' => Q t .normal T' mk H'
    | true => WPS E sz (.region id ops true) T mk ro H (Q .go)
  | .seq a b, _, T, mk, ro, H, Q => wp .go E sz a pf T mk ro H fun t ex T' mk' H' => seqP t ex (fun t => wp t E sz b pf T' mk' ro H' Q) fun t e => Q t e T' mk' H'
  | .cond x a b, _, T, mk, ro, H, Q => optP .go (ev T x) fun _ v => asBoolP v (fun t => wp t E sz a pf T mk ro H Q) (fun t => wp t E sz b pf T mk ro H Q)
  | .block id a, _, T, mk, ro, H, Q => wp .go E sz a pf T mk ro H fun t ex T' mk' H' => exP t id ex (fun t => Q t .normal T' mk' H') fun t e => Q t e T' mk' H'
  | .scope a, _, T, mk, ro, H, Q => wp .go E sz a pf T mk ro H Q
  | .exit id, _, T, mk, _, H, Q => Q .go (.exit id) T mk H
  | .ret, _, T, mk, _, H, Q => Q .go .ret T mk H
  | c, _, T, mk, ro, H, Q => WPS E sz c T mk ro H (Q .go)
variable {E : Env} {sz : Nat}
theorem exOp_dst {call : Caller} {T : Tr Value} {o o' : Oper} {H : Heap} (h : o.op = o'.op) : exOp E call T o H = exOp E call T o' H := by
  unfold exOp; rw [h]
theorem wpOps_sound {all : List Oper} : ∀ {t : Tok} {l : List Oper} {p1 : Pf all} {p2 : Pf l} {T : Tr Value} {H : Heap} {K : Tok → Tr Value → Heap → Prop}, wpOps t E all p1 sz l p2 T H K → ∃ n T' H', exOps E (callWith E (run E n)) all sz l T H = some (T', H') ∧ K .go T' H'
  | _, [], _, _, T, H, K, h => ⟨0, T, H, rfl, h⟩
  | _, o :: l, _, _, T, H, K, h => by
    obtain ⟨b, hb, hk⟩ := h
    have put : ∀ {v : Value} {H1 : Heap}, (putP .go sz T o.dst v fun t T' => wpOps t E all pf sz l pf T' H1 K) → ∃ T1, putT sz T o.dst v = some T1 ∧ ∃ n T' H', exOps E (callWith E (run E n)) all sz l T1 H1 = some (T', H') ∧ K .go T' H' := by
      intro v H1 hp
      unfold putP at hp
      unfold putT
      cases hd : o.dst with
      | none => rw [hd] at hp; exact ⟨T, rfl, wpOps_sound hp⟩
      | some d =>
        rw [hd] at hp
        have hb : Nat.blt d sz = true := Nat.ble_eq_true_of_le hp.1
        exact ⟨T.set d v, by simp [hb, Tr.force_eq], wpOps_sound hp.2⟩
    cases b with
    | true =>
      obtain ⟨n1, v, H1, h1, h2⟩ := hk.1 rfl
      obtain ⟨T1, h3, n2, T', H', h4, h5⟩ := put h2
      refine ⟨max n1 n2, T', H', ?_, h5⟩
      have e1 : exOp E (callWith E (run E (max n1 n2))) T o H = some (v, H1) := by
        rw [exOp_dst (o := o) (o' := { dst := none, op := o.op, type := 0, pos := default, after := #[], guard := none }) rfl]
        exact mono_exOp (mono_callWith (run_mono (Nat.le_max_left ..))) h1
      simp only [exOps, hb, e1, Option.bind_some, h3, forceH_eq]
      exact mono_exOps (mono_callWith (run_mono (Nat.le_max_right ..))) h4
    | false =>
      obtain ⟨T1, h3, n2, T', H', h4, h5⟩ := put (hk.2 rfl)
      refine ⟨n2, T', H', ?_, h5⟩
      simp only [exOps, hb, Option.bind_some, h3]
      exact h4
theorem wp_sound : ∀ (c : Code) {t : Tok} {p : Pf c} {T : Tr Value} {mk : List Nat} {ro : Option Nat} {H : Heap} {Q : Tok → Ex → Tr Value → List Nat → Heap → Prop}, wp t E sz c p T mk ro H Q → WPS E sz c T mk ro H (Q .go) := by
  intro c
  induction c with
  | skip => intro t p T mk ro H Q h; exact ⟨1, _, _, _, _, rfl, h⟩
  | label l => intro t p T mk ro H Q h; exact ⟨1, _, _, _, _, rfl, h⟩
  | exit id => intro t p T mk ro H Q h; exact ⟨1, _, _, _, _, rfl, h⟩
  | ret => intro t p T mk ro H Q h; exact ⟨1, _, _, _, _, rfl, h⟩
  | region id ops d =>
    intro t p T mk ro H Q h
    cases d with
    | true => exact h
    | false =>
      obtain ⟨n, T', H', h1, h2⟩ := wpOps_sound (show wpOps .go E ops.toList pf sz ops.toList pf T H (fun t T' H' => Q t .normal T' mk H') from h)
      exact ⟨n + 1, .normal, T', mk, H', by simp only [run, runWith, h1, Option.bind_some], h2⟩
  | seq a b iha ihb =>
    intro t p T mk ro H Q h
    obtain ⟨n, ex, T', mk', H', h1, h2⟩ := iha (show wp .go E sz a pf T mk ro H _ from h)
    cases ex with
    | normal =>
      obtain ⟨n2, ex2, T2, mk2, H2, h3, h4⟩ := ihb (show wp .go E sz b pf T' mk' ro H' Q from h2)
      refine ⟨max n n2 + 1, ex2, T2, mk2, H2, ?_, h4⟩
      simp only [run, runWith, run_mono (Nat.le_max_left n n2) _ _ _ _ h1, Option.bind_some]
      exact run_mono (Nat.le_max_right n n2) _ _ _ _ h3
    | ret => exact ⟨n + 1, .ret, T', mk', H', by simp only [run, runWith, h1, Option.bind_some], h2⟩
    | exit id => exact ⟨n + 1, .exit id, T', mk', H', by simp only [run, runWith, h1, Option.bind_some], h2⟩
  | cond x a b iha ihb =>
    intro t p T mk ro H Q h
    obtain ⟨v, hv, h⟩ := (show optP .go (ev T x) _ from h)
    unfold asBoolP at h
    split at h
    · rename_i c
      cases c with
      | true =>
        obtain ⟨n, ex, T', mk', H', h1, h2⟩ := iha (h.1 rfl)
        exact ⟨n + 1, ex, T', mk', H', by simp only [run, runWith, hv, Option.bind_some, h1], h2⟩
      | false =>
        obtain ⟨n, ex, T', mk', H', h1, h2⟩ := ihb (h.2 rfl)
        exact ⟨n + 1, ex, T', mk', H', by simp only [run, runWith, hv, Option.bind_some, h1], h2⟩
    · exact h.elim
  | block id a iha =>
    intro t p T mk ro H Q h
    obtain ⟨n, ex, T', mk', H', h1, h2⟩ := iha (show wp .go E sz a pf T mk ro H _ from h)
    cases ex with
    | normal => exact ⟨n + 1, .normal, T', mk', H', by simp only [run, runWith, h1, Option.bind_some], h2⟩
    | ret => exact ⟨n + 1, .ret, T', mk', H', by simp only [run, runWith, h1, Option.bind_some], h2⟩
    | exit i =>
      rcases h2 with ⟨hi, h2⟩ | ⟨hi, h2⟩
      · exact ⟨n + 1, .normal, T', mk', H', by simp [run, runWith, h1, hi], h2⟩
      · refine ⟨n + 1, .exit i, T', mk', H', ?_, h2⟩
        have : Nat.beq i id = false := by rw [Bool.eq_false_iff]; intro hh; exact hi (Nat.eq_of_beq_eq_true hh)
        simp only [run, runWith, h1, Option.bind_some, this, cond_false]
  | scope a iha =>
    intro t p T mk ro H Q h
    obtain ⟨n, ex, T', mk', H', h1, h2⟩ := iha (show wp .go E sz a pf T mk ro H Q from h)
    exact ⟨n + 1, ex, T', mk', H', h1, h2⟩
  | _ => intro t p T mk ro H Q h; exact h
theorem WPS.mono {c : Code} {T : Tr Value} {mk : List Nat} {ro : Option Nat} {H : Heap} {Q Q' : Ex → Tr Value → List Nat → Heap → Prop} (h : WPS E sz c T mk ro H Q) (hq : ∀ ex T mk H, Q ex T mk H → Q' ex T mk H) : WPS E sz c T mk ro H Q' := by
  obtain ⟨n, ex, T', mk', H', h1, h2⟩ := h
  exact ⟨n, ex, T', mk', H', h1, hq _ _ _ _ h2⟩
theorem CallA.mono {f : Value} {args : List Value} {H : Heap} {K K' : Value → Heap → Prop} (h : CallA E f args H K) (hk : ∀ v H, K v H → K' v H) : CallA E f args H K' := by
  obtain ⟨n, v, H', h1, h2⟩ := h
  exact ⟨n, v, H', h1, hk _ _ h2⟩
theorem wp_loop {c : Code} (hn : headNext c = none) {T : Tr Value} {mk : List Nat} {ro : Option Nat} {H : Heap} {Q : Ex → Tr Value → List Nat → Heap → Prop} (I : Nat → Tr Value → Heap → Prop) (n0 : Nat) (h0 : I n0 T H)
    (step : ∀ n T H, I n T H → wp .go E sz c pf T mk ro H fun t ex T' mk' H' => seqP t ex (fun _ => mk' = mk ∧ ∃ m, m < n ∧ I m T' H') fun _ e => Q e T' mk' H') : WPS E sz (.loop c) T mk ro H Q := by
  induction n0 using Nat.strongRecOn generalizing T H with
  | ind n0 ih =>
    obtain ⟨n, ex, T', mk', H', h1, h2⟩ := wp_sound c (step n0 T H h0)
    cases ex with
    | normal =>
      obtain ⟨rfl, m, hm, h3⟩ := h2
      obtain ⟨n2, ex2, T2, mk2, H2, h4, h5⟩ := ih m hm h3
      refine ⟨max n n2 + 1, ex2, T2, mk2, H2, ?_, h5⟩
      simp only [run, runWith, hn, run_mono (Nat.le_max_left n n2) _ _ _ _ h1, Option.bind_some]
      exact run_mono (Nat.le_max_right n n2) _ _ _ _ h4
    | ret => exact ⟨n + 1, .ret, T', mk', H', by simp only [run, runWith, hn, h1, Option.bind_some], h2⟩
    | exit id => exact ⟨n + 1, .exit id, T', mk', H', by simp only [run, runWith, hn, h1, Option.bind_some], h2⟩
theorem wp_loopQ {c : Code} (hn : headNext c = none) {T : Tr Value} {mk : List Nat} {ro : Option Nat} {H : Heap} {Q : Ex → Tr Value → List Nat → Heap → Prop} (I : Nat → Tr Value → Heap → Prop) (n0 : Nat) (h0 : I n0 T H)
    (step : ∀ n T H, I n T H → ∀ Qs : Tok → Ex → Tr Value → List Nat → Heap → Prop, (∀ T' H' m, m < n → I m T' H' → Qs .go .normal T' mk H') → (∀ T' mk' H', Q .ret T' mk' H' → Qs .go .ret T' mk' H') → (∀ i T' mk' H', Q (.exit i) T' mk' H' → Qs .go (.exit i) T' mk' H') → wp .go E sz c pf T mk ro H Qs) : WPS E sz (.loop c) T mk ro H Q := by
  refine wp_loop hn I n0 h0 fun n T H hI => step n T H hI _ (fun T' H' m hm hI' => ⟨rfl, m, hm, hI'⟩) (fun T' mk' H' h => h) (fun i T' mk' H' h => h)
def endP (_ : Tok) (ex : Ex) (P : Tok → Prop) : Prop :=
  match ex with
  | .exit _ => False
  | _ => P .go
theorem callA_clo {g : FuncId} {fn : Func} {c : Code} {first captured : Array Value} {args : List Value} {H : Heap} {K : Value → Heap → Prop} (ho : E.orc (.func (.func g) first captured) args H = none) (h1 : E.fn.get g = some fn) (h2 : fn.body = some c) (h3 : Nat.ble (first.toList ++ args ++ captured.toList).length fn.ntmps = true)
    (h : wp .go E fn.ntmps c pf (Tr.of (first.toList ++ args ++ captured.toList)) [] none H fun t ex T' mk' H' => endP t ex (fun t => mk' = [] ∧ optP t (resultsV E H' T' fn.results.toList) fun _ vs => K (packV vs) H')) : CallA E (.func (.func g) first captured) args H K := by
  obtain ⟨n, ex, T', mk', H', h4, h5⟩ := wp_sound c h
  refine ⟨n, ?_⟩
  have key : ∀ vs, mk' = [] → resultsV E H' T' fn.results.toList = some vs → (∀ id, ex ≠ .exit id) → callWith E (run E n) (.func (.func g) first captured) args H = some (packV vs, H') := by
    intro vs hm hr hx
    subst hm
    unfold callWith
    rw [ho]
    simp only [callBody, target, Option.bind_some, h1, h2, h3, Bool.not_true, cond_false, h4, killMarks, Tr.force_eq]
    cases ex with
    | exit id => exact absurd rfl (hx id)
    | _ => simp only [hr, Option.bind_some]
  cases ex with
  | exit id => exact h5.elim
  | normal =>
    obtain ⟨hm, vs, h6, h7⟩ := h5
    exact ⟨_, H', key vs hm h6 (by simp), h7⟩
  | ret =>
    obtain ⟨hm, vs, h6, h7⟩ := h5
    exact ⟨_, H', key vs hm h6 (by simp), h7⟩
theorem callA_fn {g : FuncId} {fn : Func} {c : Code} {args : List Value} {H : Heap} {K : Value → Heap → Prop} (ho : E.orc (.func (.func g) #[] #[]) args H = none) (h1 : E.fn.get g = some fn) (h2 : fn.body = some c) (h3 : Nat.ble args.length fn.ntmps = true)
    (h : wp .go E fn.ntmps c pf (Tr.of args) [] none H fun t ex T' mk' H' => endP t ex (fun t => mk' = [] ∧ optP t (resultsV E H' T' fn.results.toList) fun _ vs => K (packV vs) H')) : CallA E (.func (.func g) #[] #[]) args H K := by
  refine callA_clo ho h1 h2 (by simpa using h3) ?_
  simpa using h
end
end Go.AM

namespace Go.AM
attribute [local instance] fnMaps
section
variable {E : Env} {sz : Nat}
theorem resP_bind {α : Type} (o : Option α) (f : α → Option (Value × Heap)) (K : Tok → Value → Heap → Prop) : resP .go (o.bind f) K = optP .go o fun t a => resP t (f a) K := by
  cases o <;> simp [resP, optP]
theorem resP_none (K : Tok → Value → Heap → Prop) : resP .go none K = False := by simp [resP]
theorem optP_bind {α β : Type} (o : Option α) (f : α → Option β) (k : Tok → β → Prop) : optP .go (o.bind f) k = optP .go o fun t a => optP t (f a) k := by
  cases o <;> simp [optP]
theorem get_set (T : Tr Value) (k j : Nat) (v : Value) : (T.set k v).get j = if j = k then some v else T.get j := by
  show (if j = k then some v else T j) = _
  by_cases h : j = k
  · simp [h]
  · simp [h]; rfl
theorem of_nil : (Tr.of [] : Tr Value) = Tr.nil := Eq.trans rfl rfl
theorem of_1 (a : Value) : Tr.of [a] = Tr.nil.set 0 a := Eq.trans rfl rfl
theorem of_2 (a b : Value) : Tr.of [a, b] = (Tr.nil.set 0 a).set 1 b := Eq.trans rfl rfl
theorem of_3 (a b c : Value) : Tr.of [a, b, c] = ((Tr.nil.set 0 a).set 1 b).set 2 c := Eq.trans rfl rfl
theorem ev_tmp (T : Tr Value) (t : Tmp) : ev T (.tmp t) = T.get t := Eq.trans rfl rfl
theorem ev_func (T : Tr Value) (f : FuncId) : ev T (.func f) = some (.func (.func f) #[] #[]) := Eq.trans rfl rfl
theorem ev_int (T : Tr Value) (k : IntKind) (n : Int) : ev T (.const (.int k n)) = some (.int k n) := Eq.trans rfl rfl
theorem ev_bool (T : Tr Value) (b : Bool) : ev T (.const (.bool b)) = some (.bool b) := Eq.trans rfl rfl
theorem ev_string (T : Tr Value) (s : ByteArray) : ev T (.const (.string s)) = some (.string s) := Eq.trans rfl rfl
theorem ev_nilptr (T : Tr Value) : ev T (.const (.pointer none)) = some (.pointer none) := Eq.trans rfl rfl
theorem ev_nilslice (T : Tr Value) (l c : Nat) : ev T (.const (.slice none l c)) = some (.slice none l c) := Eq.trans rfl rfl
theorem ev_agg (T : Tr Value) (cs : Array Value) : ev T (.const (.agg cs)) = bif cs.toList.all plain1 then some (.agg cs) else none := Eq.trans rfl rfl
theorem wantedA_none (T : Tr Value) (all : List Oper) (d : Option Tmp) (o : Op) (t : TypeId) (p : String) (a : Array Edge) : wantedA T all ⟨d, o, t, p, a, none⟩ = some true := Eq.trans rfl rfl
def wantV (o : Option Value) (want : Bool) : Option Bool :=
  match o with
  | some (.bool b) => some (b == want)
  | some (.tuple _) => some false
  | _ => none
def guardV (T : Tr Value) : Option Tmp → Bool → Option Bool
  | some d, w => wantV (T.get d) w
  | none, _ => none
theorem guardV_some (T : Tr Value) (d : Tmp) (w : Bool) : guardV T (some d) w = wantV (T.get d) w := Eq.trans rfl rfl
theorem wantedA_some (T : Tr Value) (all : List Oper) (d : Option Tmp) (o : Op) (t : TypeId) (p : String) (a : Array Edge) (j : Nat) (w : Bool) : wantedA T all ⟨d, o, t, p, a, some (j, w)⟩ = guardV T ((all[j]?).bind (·.dst)) w := by
  simp only [wantedA]
  cases h : (all[j]?).bind (·.dst) with
  | none => rfl
  | some d =>
    simp only [guardV, wantV]
    rfl
theorem wantV_bool (b w : Bool) : wantV (some (.bool b)) w = some (b == w) := Eq.trans rfl rfl
theorem wantV_undef (w : Bool) : wantV (some undef) w = some false := Eq.trans rfl rfl
theorem OP_det {tk : Tok} {T : Tr Value} {o : Op} {H : Heap} {K : Tok → Value → Heap → Prop} (h : ∀ call, exOp E call T { dst := none, op := o, type := 0, pos := default, after := #[], guard := none } H = exOp E (fun _ _ _ => none) T { dst := none, op := o, type := 0, pos := default, after := #[], guard := none } H) : OP tk E T o H K = resP .go (exOp E (fun _ _ _ => none) T { dst := none, op := o, type := 0, pos := default, after := #[], guard := none } H) K := by
  unfold OP resP
  simp only [h, eq_iff_iff]
  exact ⟨fun ⟨_, h⟩ => h, fun h => ⟨0, h⟩⟩
variable {T : Tr Value} {H : Heap} {K : Tok → Value → Heap → Prop}
theorem OP_move (x : Operand) : OP .go E T (.move x) H K = optP .go (ev T x) fun t v => K t v H := by
  rw [OP_det fun _ => rfl]; simp only [exOp, resP_bind, resP_some, optP]
theorem OP_assign (x : Operand) : OP .go E T (.assign x) H K = optP .go (ev T x) fun t v => K t v H := by
  rw [OP_det fun _ => rfl]; simp only [exOp, resP_bind, resP_some, optP]
theorem OP_pick (c a b : Operand) : OP .go E T (.pick c a b) H K = optP .go (ev T c) fun t c => asBoolP c (fun t => optP t (ev T a) fun t v => K t v H) (fun t => optP t (ev T b) fun t v => K t v H) := by
  rw [OP_det fun _ => rfl]; simp only [exOp, resP_bind, optP]
  congr 1
  funext v
  congr 1
  cases v with
  | bool v => cases v <;> simp only [asBoolP, boolP_true, boolP_false, resP_bind, resP_some, optP]
  | _ => simp [asBoolP, resP]
theorem OP_alloc (ty : TypeId) : OP .go E T (.alloc ty) H K = optP .go ((E.ty.get ty).bind (·.zero)) fun t z => K t (ptr H.next 0) (H.newRow (cellsV z)) := by
  rw [OP_det fun _ => rfl]; simp only [exOp, resP_bind, resP_some, optP_bind]; simp only [optP, resP_bind, resP_some]
theorem OP_box (ty : TypeId) (x : Operand) : OP .go E T (.box ty x) H K = optP .go (ev T x) fun t v => K t (ptr H.next 0) (H.newRow (cellsV v)) := by
  rw [OP_det fun _ => rfl]; simp only [exOp, resP_bind, resP_some, optP]
theorem OP_build (ty : TypeId) (ps : Array (Nat × Operand)) : OP .go E T (.build ty ps) H K = optP .go (structLit E T ty ps.toList) fun t v => K t v H := by
  rw [OP_det fun _ => rfl]; simp only [exOp, resP_bind, resP_some, optP]
theorem OP_load (ty : TypeId) (x : Operand) : OP .go E T (.load ty x) H K = optP .go (ev T x) fun t a => optP t (loadV E H ty a) fun t v => K t v H := by
  rw [OP_det fun _ => rfl]; simp only [exOp, resP_bind, resP_some, optP]
theorem OP_store (ty : TypeId) (x y : Operand) : OP .go E T (.store ty x y) H K = optP .go (ev T x) fun t a => optP t (ev T y) fun t v => optP t (storeV E H ty a v) fun t H' => K t undef H' := by
  rw [OP_det fun _ => rfl]; simp only [exOp, resP_bind, resP_some, optP]
theorem OP_binOp (op : BinOp) (ty t' : TypeId) (x y : Operand) : OP .go E T (.binOp op ty x y t') H K = optP .go (ev T x) fun t a => optP t (ev T y) fun t b => optP t (binV E op ty x y a b) fun t v => K t v H := by
  rw [OP_det fun _ => rfl]; simp only [exOp, resP_bind, resP_some, optP]
theorem OP_unOp (op : UnOp) (ty : TypeId) (x : Operand) : OP .go E T (.unOp op ty x) H K = optP .go (ev T x) fun t a => optP t (unV op a) fun t v => K t v H := by
  rw [OP_det fun _ => rfl]; simp only [exOp, resP_bind, resP_some, optP]
theorem OP_convert (s d : TypeId) (x : Operand) : OP .go E T (.convert s d x) H K = optP .go (ev T x) fun t a => optP t (cvV E H s d a) fun t v => K t v H := by
  rw [OP_det fun _ => rfl]; simp only [exOp, resP_bind, resP_some, optP]
theorem OP_slice (ty : TypeId) (x : Operand) (lo hi mx : Option Operand) : OP .go E T (.slice ty x lo hi mx) H K = optP .go (ev T x) fun t x => optP t (evO T lo) fun t lo => optP t (evO T hi) fun t hi => optP t (evO T mx) fun t mx => optP t (sliceV E H ty x lo hi mx) fun t v => K t v H := by
  rw [OP_det fun _ => rfl]; simp only [exOp, resP_bind, resP_some, optP]
theorem OP_fieldAddr (ty : TypeId) (x : Operand) (f : Nat) : OP .go E T (.fieldAddr ty x f) H K = optP .go (ev T x) fun t x => optP t (fieldAddrV E ty x f) fun t v => K t v H := by
  rw [OP_det fun _ => rfl]; simp only [exOp, resP_bind, resP_some, optP]
theorem OP_field (ty : TypeId) (x : Operand) (f : Nat) : OP .go E T (.field ty x f) H K = optP .go (ev T x) fun t x => optP t (fieldV E ty x f) fun t v => K t v H := by
  rw [OP_det fun _ => rfl]; simp only [exOp, resP_bind, resP_some, optP]
theorem OP_indexAddr (ty : TypeId) (x i : Operand) : OP .go E T (.indexAddr ty x i) H K = optP .go (ev T x) fun t x => optP t (ev T i) fun t i => optP t (indexAddrV E ty x i) fun t v => K t v H := by
  rw [OP_det fun _ => rfl]; simp only [exOp, resP_bind, resP_some, optP]
theorem OP_index (ty : TypeId) (x i : Operand) : OP .go E T (.index ty x i) H K = optP .go (ev T x) fun t x => optP t (ev T i) fun t i => optP t (indexV E ty x i) fun t v => K t v H := by
  rw [OP_det fun _ => rfl]; simp only [exOp, resP_bind, resP_some, optP]
theorem OP_makeSlice (ty : TypeId) (l c : Operand) : OP .go E T (.makeSlice ty l c) H K = optP .go (ev T l) fun t l => optP t (ev T c) fun t c => resP t (makeSliceV E H ty l c) K := by
  rw [OP_det fun _ => rfl]; simp only [exOp, resP_bind, optP]
def tupV : Value → Nat → Option Value
  | .tuple vs, ix => vs.toList[ix]?
  | _, _ => none
theorem tup_get (vs : Array Value) (ix : Nat) : tupV (.tuple vs) ix = vs.toList[ix]? := Eq.trans rfl rfl
theorem OP_extract (x : Operand) (ix : Nat) : OP .go E T (.extract x ix) H K = optP .go (ev T x) fun t v => optP t (tupV v ix) fun t v => K t v H := by
  rw [OP_det fun _ => rfl]; simp only [exOp, resP_bind, optP]
  congr 1
  funext v
  congr 1
  cases v <;> simp only [tupV, resP_bind, resP_some, optP] <;> simp [resP]
theorem OP_makeFunc (g : FuncId) (first captured : Array Operand) : OP .go E T (.makeFunc (.func g) first captured) H K = optP .go (evs T first.toList) fun t fs => optP t (evs T captured.toList) fun t cs => K t (.func (.func g) fs.toArray cs.toArray) H := by
  rw [OP_det fun _ => rfl]; simp only [exOp, resP_bind, resP_some, optP]
def rangeTO (E : Env) (H : Heap) (ty : TypeId) (x : Value) : Option AObj := (E.ty.get ty).bind fun i => rangeO H i.desc x
theorem OP_range (ty : TypeId) (x : Operand) : OP .go E T (.range ty x) H K = optP .go (ev T x) fun t v => optP t (rangeTO E H ty v) fun t o => K t (ptr H.next 0) (H.add o) := by
  have e : ∀ v, ((E.ty.get ty).bind fun i => (rangeO H i.desc v).bind fun o => some (ptr H.next 0, H.add o)) = (rangeTO E H ty v).bind fun o => some (ptr H.next 0, H.add o) := fun v => by
    unfold rangeTO
    cases E.ty.get ty <;> rfl
  rw [OP_det fun _ => rfl]; simp only [exOp, e, resP_bind, resP_some, optP]
theorem OP_next (x : Operand) : OP .go E T (.next x true) H K = optP .go (ev T x) fun t v => resP t (nextV H v) K := by
  rw [OP_det fun _ => rfl]; simp only [exOp, resP_bind, optP]
theorem OP_builtin (b : Builtin) (as : Array Operand) (ts : Array TypeId) : OP .go E T (.call { callee := .builtin b, args := as, argTypes := ts }) H K = optP .go (evs T as.toList) fun t vs => resP t (builtinV E H b ts.toList vs) K := by
  rw [OP_det fun _ => rfl]; simp only [exOp, resP_bind, optP]
theorem OP_call (f : Operand) (as : Array Operand) (ts : Array TypeId) : OP .go E T (.call { callee := .value f, args := as, argTypes := ts }) H K = optP .go (evs T as.toList) fun t vs => optP t (ev T f) fun t fv => CallA E fv vs H (K .go) := by
  unfold OP CallA optP
  simp only [exOp, Option.bind_eq_some_iff, eq_iff_iff]
  constructor
  · rintro ⟨n, v, H', ⟨as, h1, fv, h2, h3⟩, hk⟩
    exact ⟨as, h1, fv, h2, n, v, H', h3, hk⟩
  · rintro ⟨as, h1, fv, h2, n, v, H', h3, hk⟩
    exact ⟨n, v, H', ⟨as, h1, fv, h2, h3⟩, hk⟩
theorem evs_nil : evs T [] = some [] := Eq.trans rfl rfl
theorem evs_cons (x : Operand) (l : List Operand) : evs T (x :: l) = (ev T x).bind fun v => (evs T l).bind fun vs => some (v :: vs) := Eq.trans rfl rfl
theorem intR_some (k : IntKind) (n : Int) : intR k n = some (.int k (k.wrap n)) := by simp only [intR, forceInt_eq, wrapI_eq]
theorem bin_int {op : BinOp} (t : TypeId) (x y : Operand) (k k' : IntKind) (a b : Int) (h1 : (match op with | .shl | .shr => false | _ => true) = true) (h2 : sameKind k k' = true) : binV E op t x y (.int k a) (.int k' b) = intOp op k a b := by
  cases op <;> simp_all [binV]
theorem sameKind_self (k : IntKind) : sameKind k k = true := by cases k <;> rfl
theorem bin_add (t : TypeId) (x y : Operand) (k : IntKind) (a b : Int) : binV E .add t x y (.int k a) (.int k b) = intOp .add k a b := bin_int t x y k k a b rfl (sameKind_self k)
theorem bin_sub (t : TypeId) (x y : Operand) (k : IntKind) (a b : Int) : binV E .sub t x y (.int k a) (.int k b) = intOp .sub k a b := bin_int t x y k k a b rfl (sameKind_self k)
theorem bin_mul (t : TypeId) (x y : Operand) (k : IntKind) (a b : Int) : binV E .mul t x y (.int k a) (.int k b) = intOp .mul k a b := bin_int t x y k k a b rfl (sameKind_self k)
theorem bin_quo (t : TypeId) (x y : Operand) (k : IntKind) (a b : Int) : binV E .quo t x y (.int k a) (.int k b) = intOp .quo k a b := bin_int t x y k k a b rfl (sameKind_self k)
theorem bin_rem (t : TypeId) (x y : Operand) (k : IntKind) (a b : Int) : binV E .rem t x y (.int k a) (.int k b) = intOp .rem k a b := bin_int t x y k k a b rfl (sameKind_self k)
theorem bin_and (t : TypeId) (x y : Operand) (k : IntKind) (a b : Int) : binV E .and t x y (.int k a) (.int k b) = intOp .and k a b := bin_int t x y k k a b rfl (sameKind_self k)
theorem bin_or (t : TypeId) (x y : Operand) (k : IntKind) (a b : Int) : binV E .or t x y (.int k a) (.int k b) = intOp .or k a b := bin_int t x y k k a b rfl (sameKind_self k)
theorem bin_xor (t : TypeId) (x y : Operand) (k : IntKind) (a b : Int) : binV E .xor t x y (.int k a) (.int k b) = intOp .xor k a b := bin_int t x y k k a b rfl (sameKind_self k)
theorem bin_andNot (t : TypeId) (x y : Operand) (k : IntKind) (a b : Int) : binV E .andNot t x y (.int k a) (.int k b) = intOp .andNot k a b := bin_int t x y k k a b rfl (sameKind_self k)
theorem bin_eql (t : TypeId) (x y : Operand) (k : IntKind) (a b : Int) : binV E .eql t x y (.int k a) (.int k b) = intOp .eql k a b := bin_int t x y k k a b rfl (sameKind_self k)
theorem bin_neq (t : TypeId) (x y : Operand) (k : IntKind) (a b : Int) : binV E .neq t x y (.int k a) (.int k b) = intOp .neq k a b := bin_int t x y k k a b rfl (sameKind_self k)
theorem bin_lss (t : TypeId) (x y : Operand) (k : IntKind) (a b : Int) : binV E .lss t x y (.int k a) (.int k b) = intOp .lss k a b := bin_int t x y k k a b rfl (sameKind_self k)
theorem bin_leq (t : TypeId) (x y : Operand) (k : IntKind) (a b : Int) : binV E .leq t x y (.int k a) (.int k b) = intOp .leq k a b := bin_int t x y k k a b rfl (sameKind_self k)
theorem bin_gtr (t : TypeId) (x y : Operand) (k : IntKind) (a b : Int) : binV E .gtr t x y (.int k a) (.int k b) = intOp .gtr k a b := bin_int t x y k k a b rfl (sameKind_self k)
theorem bin_geq (t : TypeId) (x y : Operand) (k : IntKind) (a b : Int) : binV E .geq t x y (.int k a) (.int k b) = intOp .geq k a b := bin_int t x y k k a b rfl (sameKind_self k)
theorem bin_agg (t : TypeId) (x y : Operand) (a b : Array Value) : binV E .neq t x y (.agg a) (.agg b) = (eqV E (99 + 1) t (.agg a) (.agg b)).bind fun r => some (.bool (!r)) := Eq.trans rfl rfl
theorem bin_agg_eq (t : TypeId) (x y : Operand) (a b : Array Value) : binV E .eql t x y (.agg a) (.agg b) = (eqV E (99 + 1) t (.agg a) (.agg b)).bind fun r => some (.bool r) := Eq.trans rfl rfl
theorem un_not (b : Bool) : unV .not (.bool b) = some (.bool (!b)) := Eq.trans rfl rfl
theorem un_neg (k : IntKind) (n : Int) : unV .neg (.int k n) = some (.int k (k.wrap (0 - n))) := by simp only [unV, intR_some]
theorem bin_shl (t : TypeId) (x y : Operand) (k k' : IntKind) (a b : Int) : binV E .shl t x y (.int k a) (.int k' b) = shiftOp .shl k a b := Eq.trans rfl rfl
theorem bin_shr (t : TypeId) (x y : Operand) (k k' : IntKind) (a b : Int) : binV E .shr t x y (.int k a) (.int k' b) = shiftOp .shr k a b := Eq.trans rfl rfl
theorem shift_shl (k : IntKind) (a b : Int) (h : 0 ≤ b) : shiftOp .shl k a b = some (.int k (k.wrap (a * 2 ^ (min b.toNat k.bits)))) := by
  have : ltI b 0 = false := by rw [ltI_eq]; simpa using h
  simp only [shiftOp, this, cond_false, intR_some]
theorem shift_shr (k : IntKind) (a b : Int) (h : 0 ≤ b) : shiftOp .shr k a b = some (.int k (a.fdiv (2 ^ (min b.toNat k.bits)))) := by
  have : ltI b 0 = false := by rw [ltI_eq]; simpa using h
  simp only [shiftOp, this, cond_false, forceInt_eq]
theorem int_add (k : IntKind) (a b : Int) : intOp .add k a b = some (.int k (k.wrap (a + b))) := intR_some ..
theorem int_sub (k : IntKind) (a b : Int) : intOp .sub k a b = some (.int k (k.wrap (a - b))) := intR_some ..
theorem int_mul (k : IntKind) (a b : Int) : intOp .mul k a b = some (.int k (k.wrap (a * b))) := intR_some ..
theorem int_rem (k : IntKind) (a b : Int) (h : b ≠ 0) : intOp .rem k a b = some (.int k (a.tmod b)) := by
  have : eqI b 0 = false := by rw [eqI_eq]; simpa using h
  simp only [intOp, this, cond_false, forceInt_eq]
theorem int_quo (k : IntKind) (a b : Int) (h : b ≠ 0) : intOp .quo k a b = some (.int k (k.wrap (a.tdiv b))) := by
  have : eqI b 0 = false := by rw [eqI_eq]; simpa using h
  simp only [intOp, this, cond_false, intR_some]
theorem int_eql (k : IntKind) (a b : Int) : intOp .eql k a b = some (.bool (decide (a = b))) := by simp only [intOp, eqI_eq]; rfl
theorem int_neq (k : IntKind) (a b : Int) : intOp .neq k a b = some (.bool (!decide (a = b))) := by simp only [intOp, eqI_eq]; rfl
theorem int_lss (k : IntKind) (a b : Int) : intOp .lss k a b = some (.bool (decide (a < b))) := by simp only [intOp, ltI_eq]
theorem int_leq (k : IntKind) (a b : Int) : intOp .leq k a b = some (.bool (decide (a ≤ b))) := by simp only [intOp, leI_eq]
theorem int_gtr (k : IntKind) (a b : Int) : intOp .gtr k a b = some (.bool (decide (b < a))) := by simp only [intOp, ltI_eq]
theorem int_geq (k : IntKind) (a b : Int) : intOp .geq k a b = some (.bool (decide (b ≤ a))) := by simp only [intOp, leI_eq]
theorem newRow_next (c : List Value) : (H.newRow c).next = H.next + 1 := add_next H _
theorem newRow_lo (c : List Value) : (H.newRow c).lo = H.lo := add_lo H _
theorem newRow_get (c : List Value) (r : Nat) : (H.newRow c).objs.get r = bif r == H.next then some (.row c none true) else H.objs.get r := by
  simp only [Heap.newRow, Heap.add, forceNat_eq, Tr.force_eq]
  show (if r = H.next then some _ else H.objs r) = _
  by_cases h : r = H.next
  · simp [h]
  · have h' : (r == H.next) = false := by simpa using h
    rw [if_neg h, h']; rfl
def aggOf (E : Env) (t : TypeId) : Option (Option Nat) := (E.ty.get t).bind fun i => some (bif i.agg then some i.size else none)
def rowLoad (a : Option Nat) (o : Nat) : AObj → Option Value
  | .row cells _ _ => match a with
    | none => cells[o]?
    | some n => (cut cells o n).bind fun l => some (.agg l.toArray)
  | _ => none
theorem loadV_ptr (t : TypeId) (r o : Nat) : loadV E H t (ptr r o) = (H.objs.get r).bind fun ob => (aggOf E t).bind fun a => rowLoad a o ob := by
  simp only [loadV, ptr]
  cases H.objs.get r with
  | none => rfl
  | some ob =>
    simp only [Option.bind_some, aggOf]
    cases E.ty.get t with
    | none => cases ob <;> rfl
    | some i => cases ob <;> simp only [Option.bind_some, rowLoad] <;> cases i.agg <;> rfl
theorem cut_eq (l : List Value) (o n : Nat) : cut l o n = if o + n ≤ l.length then some ((l.drop o).take n) else none := by
  unfold cut
  by_cases h : o + n ≤ l.length
  · rw [if_pos h, Nat.ble_eq_true_of_le h]; rfl
  · rw [if_neg h]
    have : Nat.ble (o + n) l.length = false := by rw [Bool.eq_false_iff]; intro hh; exact h (Nat.le_of_ble_eq_true hh)
    rw [this]; rfl
theorem rowLoad_cell (cells : List Value) (g : Option (Nat × Nat)) (t : Bool) (o : Nat) : rowLoad none o (.row cells g t) = cells[o]? := Eq.trans rfl rfl
theorem rowLoad_agg (cells : List Value) (g : Option (Nat × Nat)) (t : Bool) (o n : Nat) : rowLoad (some n) o (.row cells g t) = (cut cells o n).bind fun l => some (.agg l.toArray) := Eq.trans rfl rfl
theorem cellsV_agg (a : Array Value) : cellsV (.agg a) = a.toList := Eq.trans rfl rfl
theorem cellsV_int (k : IntKind) (n : Int) : cellsV (.int k n) = [.int k n] := Eq.trans rfl rfl
theorem cellsV_bool (b : Bool) : cellsV (.bool b) = [.bool b] := Eq.trans rfl rfl
theorem cellsV_slice (a : Option Addr) (l c : Nat) : cellsV (.slice a l c) = [.slice a l c] := Eq.trans rfl rfl
theorem cellsV_ptr (a : Option Addr) : cellsV (.pointer a) = [.pointer a] := Eq.trans rfl rfl
variable {id : Nat} {mk : List Nat} {ro : Option Nat} {Q : Tok → Ex → Tr Value → List Nat → Heap → Prop} {all : List Oper} {k : Tok → Tr Value → Prop}
theorem wp_skip {p : Pf (Code.skip)} : wp .go E sz .skip p T mk ro H Q = Q .go .normal T mk H := Eq.trans rfl rfl
theorem wp_label (l : Nat) {p : Pf (Code.label l)} : wp .go E sz (.label l) p T mk ro H Q = Q .go .normal T mk H := Eq.trans rfl rfl
theorem wp_region (ops : Array Oper) {p : Pf (Code.region id ops false)} : wp .go E sz (.region id ops false) p T mk ro H Q = wpOps .go E ops.toList pf sz ops.toList pf T H fun t T' H' => Q t .normal T' mk H' := Eq.trans rfl rfl
theorem wp_draw (ops : Array Oper) {p : Pf (Code.region id ops true)} : wp .go E sz (.region id ops true) p T mk ro H Q = WPS E sz (.region id ops true) T mk ro H (Q .go) := Eq.trans rfl rfl
theorem wp_seq_seq (a b c : Code) {p : Pf (Code.seq (Code.seq a b) c)} : wp .go E sz (.seq (.seq a b) c) p T mk ro H Q = wp .go E sz (.seq a (.seq b c)) pf T mk ro H Q := by
  show wp .go E sz a pf T mk ro H _ = wp .go E sz a pf T mk ro H _
  congr 1
  funext t ex T' mk' H'
  cases ex <;> rfl
theorem wp_seq_region (ops : Array Oper) (d : Bool) (b : Code) {p : Pf (Code.seq (Code.region id ops d) b)} : wp .go E sz (.seq (.region id ops d) b) p T mk ro H Q = wp .go E sz (.region id ops d) pf T mk ro H fun t ex T' mk' H' => seqP t ex (fun t => wp t E sz b pf T' mk' ro H' Q) fun t e => Q t e T' mk' H' := Eq.trans rfl rfl
theorem wp_seq_cond (x : Operand) (y z : Code) (b : Code) {p : Pf (Code.seq (Code.cond x y z) b)} : wp .go E sz (.seq (.cond x y z) b) p T mk ro H Q = wp .go E sz (.cond x y z) pf T mk ro H fun t ex T' mk' H' => seqP t ex (fun t => wp t E sz b pf T' mk' ro H' Q) fun t e => Q t e T' mk' H' := Eq.trans rfl rfl
theorem wp_seq_block (y : Code) (b : Code) {p : Pf (Code.seq (Code.block id y) b)} : wp .go E sz (.seq (.block id y) b) p T mk ro H Q = wp .go E sz (.block id y) pf T mk ro H fun t ex T' mk' H' => seqP t ex (fun t => wp t E sz b pf T' mk' ro H' Q) fun t e => Q t e T' mk' H' := Eq.trans rfl rfl
theorem wp_seq_loop (y : Code) (b : Code) {p : Pf (Code.seq (Code.loop y) b)} : wp .go E sz (.seq (.loop y) b) p T mk ro H Q = wp .go E sz (.loop y) pf T mk ro H fun t ex T' mk' H' => seqP t ex (fun t => wp t E sz b pf T' mk' ro H' Q) fun t e => Q t e T' mk' H' := Eq.trans rfl rfl
theorem wp_seq_scope (y : Code) (b : Code) {p : Pf (Code.seq (Code.scope y) b)} : wp .go E sz (.seq (.scope y) b) p T mk ro H Q = wp .go E sz (.scope y) pf T mk ro H fun t ex T' mk' H' => seqP t ex (fun t => wp t E sz b pf T' mk' ro H' Q) fun t e => Q t e T' mk' H' := Eq.trans rfl rfl
theorem wp_seq_exit  (b : Code) {p : Pf (Code.seq (Code.exit id) b)} : wp .go E sz (.seq (.exit id) b) p T mk ro H Q = wp .go E sz (.exit id) pf T mk ro H fun t ex T' mk' H' => seqP t ex (fun t => wp t E sz b pf T' mk' ro H' Q) fun t e => Q t e T' mk' H' := Eq.trans rfl rfl
theorem wp_seq_ret  (b : Code) {p : Pf (Code.seq Code.ret b)} : wp .go E sz (.seq .ret b) p T mk ro H Q = wp .go E sz .ret pf T mk ro H fun t ex T' mk' H' => seqP t ex (fun t => wp t E sz b pf T' mk' ro H' Q) fun t e => Q t e T' mk' H' := Eq.trans rfl rfl
theorem wp_seq_skip  (b : Code) {p : Pf (Code.seq Code.skip b)} : wp .go E sz (.seq .skip b) p T mk ro H Q = wp .go E sz .skip pf T mk ro H fun t ex T' mk' H' => seqP t ex (fun t => wp t E sz b pf T' mk' ro H' Q) fun t e => Q t e T' mk' H' := Eq.trans rfl rfl
theorem wp_seq_range (f : Operand) (ps : Array Tmp) (y z : Code) (b : Code) {p : Pf (Code.seq (Code.rangeFunc f ps y z) b)} : wp .go E sz (.seq (.rangeFunc f ps y z) b) p T mk ro H Q = wp .go E sz (.rangeFunc f ps y z) pf T mk ro H fun t ex T' mk' H' => seqP t ex (fun t => wp t E sz b pf T' mk' ro H' Q) fun t e => Q t e T' mk' H' := Eq.trans rfl rfl
theorem wp_seq_label (l : Nat) (b : Code) {p : Pf (Code.seq (Code.label l) b)} : wp .go E sz (.seq (.label l) b) p T mk ro H Q = wp .go E sz (.label l) pf T mk ro H fun t ex T' mk' H' => seqP t ex (fun t => wp t E sz b pf T' mk' ro H' Q) fun t e => Q t e T' mk' H' := Eq.trans rfl rfl
theorem wp_cond (x : Operand) (a b : Code) {p : Pf (Code.cond x a b)} : wp .go E sz (.cond x a b) p T mk ro H Q = optP .go (ev T x) fun t v => asBoolP v (fun t => wp t E sz a pf T mk ro H Q) (fun t => wp t E sz b pf T mk ro H Q) := Eq.trans rfl rfl
theorem wp_block (a : Code) {p : Pf (Code.block id a)} : wp .go E sz (.block id a) p T mk ro H Q = wp .go E sz a pf T mk ro H fun t ex T' mk' H' => exP t id ex (fun t => Q t .normal T' mk' H') fun t e => Q t e T' mk' H' := Eq.trans rfl rfl
theorem wp_scope (a : Code) {p : Pf (Code.scope a)} : wp .go E sz (.scope a) p T mk ro H Q = wp .go E sz a pf T mk ro H Q := Eq.trans rfl rfl
theorem wp_exit {p : Pf (Code.exit id)} : wp .go E sz (.exit id) p T mk ro H Q = Q .go (.exit id) T mk H := Eq.trans rfl rfl
theorem wp_ret {p : Pf (Code.ret)} : wp .go E sz .ret p T mk ro H Q = Q .go .ret T mk H := Eq.trans rfl rfl
theorem wp_atLoop (c : Code) {p : Pf (Code.loop c)} : wp .go E sz (.loop c) p T mk ro H Q = WPS E sz (.loop c) T mk ro H (Q .go) := Eq.trans rfl rfl
theorem wp_atRange (f : Operand) (ps : Array Tmp) (a b : Code) {p : Pf (Code.rangeFunc f ps a b)} : wp .go E sz (.rangeFunc f ps a b) p T mk ro H Q = WPS E sz (.rangeFunc f ps a b) T mk ro H (Q .go) := Eq.trans rfl rfl
theorem wpOps_nil {K : Tok → Tr Value → Heap → Prop} {p1 : Pf all} {p2 : Pf ([] : List Oper)} : wpOps .go E all p1 sz [] p2 T H K = K .go T H := Eq.trans rfl rfl
theorem wpOps_cons {K : Tok → Tr Value → Heap → Prop} (d : Option Tmp) (o : Op) (ty : TypeId) (p : String) (a : Array Edge) (rest : List Oper) {p1 : Pf all} {p2 : Pf (⟨d, o, ty, p, a, none⟩ :: rest)} : wpOps .go E all p1 sz (⟨d, o, ty, p, a, none⟩ :: rest) p2 T H K = OP .go E T o H fun t v H' => putP t sz T d v fun t T' => wpOps t E all pf sz rest pf T' H' K := by
  simp only [wpOps, wantedA_none, optP_some, boolP_true]
theorem wpOps_guard {K : Tok → Tr Value → Heap → Prop} (d : Option Tmp) (o : Op) (ty : TypeId) (p : String) (a : Array Edge) (j : Nat) (w : Bool) (rest : List Oper) {p1 : Pf all} {p2 : Pf (⟨d, o, ty, p, a, some (j, w)⟩ :: rest)} : wpOps .go E all p1 sz (⟨d, o, ty, p, a, some (j, w)⟩ :: rest) p2 T H K =
    optP .go (guardV T ((all[j]?).bind (·.dst)) w) fun _ b => boolP b (fun t => OP t E T o H fun t v H' => putP t sz T d v fun t T' => wpOps t E all pf sz rest pf T' H' K) (fun t => putP t sz T d undef fun t T' => wpOps t E all pf sz rest pf T' H K) := by
  simp only [wpOps, wantedA_some]
theorem putP_some (d : Tmp) (v : Value) : putP .go sz T (some d) v k = (d < sz ∧ k .go (T.set d v)) := Eq.trans rfl rfl
theorem putP_none (v : Value) : putP .go sz T none v k = k .go T := Eq.trans rfl rfl
theorem seqP_normal (P : Tok → Prop) (Q : Tok → Ex → Prop) : seqP .go .normal P Q = P .go := Eq.trans rfl rfl
theorem seqP_ret (P : Tok → Prop) (Q : Tok → Ex → Prop) : seqP .go .ret P Q = Q .go .ret := Eq.trans rfl rfl
theorem seqP_exit (i : Nat) (P : Tok → Prop) (Q : Tok → Ex → Prop) : seqP .go (.exit i) P Q = Q .go (.exit i) := Eq.trans rfl rfl
theorem exP_normal (P : Tok → Prop) (Q : Tok → Ex → Prop) : exP .go id .normal P Q = Q .go .normal := Eq.trans rfl rfl
theorem exP_ret (P : Tok → Prop) (Q : Tok → Ex → Prop) : exP .go id .ret P Q = Q .go .ret := Eq.trans rfl rfl
theorem exP_exit (i : Nat) (P : Tok → Prop) (Q : Tok → Ex → Prop) : exP .go id (.exit i) P Q = bif i == id then P .go else Q .go (.exit i) := by
  by_cases h : i = id <;> simp [exP, h]
theorem endP_normal (P : Tok → Prop) : endP .go .normal P = P .go := Eq.trans rfl rfl
theorem endP_ret (P : Tok → Prop) : endP .go .ret P = P .go := Eq.trans rfl rfl
theorem results_nil : resultsV E H T [] = some [] := Eq.trans rfl rfl
theorem results_tmp (t : Tmp) (l : List ResultVar) : resultsV E H T (.tmp t :: l) = (T.get t).bind fun v => (resultsV E H T l).bind fun r => some (v :: r) := Eq.trans rfl rfl
theorem results_cell (a : Tmp) (t : TypeId) (l : List ResultVar) : resultsV E H T (.cell a t :: l) = (T.get a).bind fun a => (loadV E H t a).bind fun v => (resultsV E H T l).bind fun r => some (v :: r) := Eq.trans rfl rfl
theorem pack_one (v : Value) : packV [v] = v := Eq.trans rfl rfl
theorem pack_nil : packV [] = .tuple #[] := Eq.trans rfl rfl
theorem pack_two (a b : Value) : packV [a, b] = .tuple #[a, b] := Eq.trans rfl rfl
theorem pack_three (a b c : Value) : packV [a, b, c] = .tuple #[a, b, c] := Eq.trans rfl rfl
def Heap.relo (H : Heap) (n : Nat) : Heap := { objs := H.objs, grps := H.grps, next := H.next, lo := n }
def wpDraw (_ : Tok) (E : Env) (all : List Oper) (_ : Pf all) (sz : Nat) : (l : List Oper) → Pf l → List Info → Tr Value → Heap → (Tok → Tr Value → Heap → Prop) → Prop
  | [], _, _, T, H, K => K .go T H
  | o :: rest, _, i :: infos, T, H, K =>
    optP .go (wantedA T all o) fun _ b => boolP b (fun t => storeApart E T H o.op i.apart = true ∧ OP t E T o.op (bif i.grow then H.relo H.next else H) fun t v H' => keepOk E T H' i.keep = true ∧ putP t sz T o.dst v fun t T' => wpDraw t E all pf sz rest pf infos T' (H'.relo H.lo) K)
      (fun t => putP t sz T o.dst undef fun t T' => wpDraw t E all pf sz rest pf infos T' H K)
  | _ :: _, _, [], _, _, _ => False
theorem wpDraw_sound {all : List Oper} : ∀ {t : Tok} {l : List Oper} {p1 : Pf all} {p2 : Pf l} {infos : List Info} {T : Tr Value} {H : Heap} {K : Tok → Tr Value → Heap → Prop}, wpDraw t E all p1 sz l p2 infos T H K → ∃ n T' H', exDraw E (callWith E (run E n)) all sz l infos T H = some (T', H') ∧ K .go T' H'
  | _, [], _, _, _, T, H, K, h => ⟨0, T, H, by simp [exDraw], by simpa [wpDraw] using h⟩
  | _, o :: l, _, _, [], T, H, K, h => by simp [wpDraw] at h
  | _, o :: l, _, _, i :: infos, T, H, K, h => by
    obtain ⟨b, hb, hk⟩ := h
    have put : ∀ {v : Value} {H1 : Heap}, (putP .go sz T o.dst v fun t T' => wpDraw t E all pf sz l pf infos T' H1 K) → ∃ T1, putT sz T o.dst v = some T1 ∧ ∃ n T' H', exDraw E (callWith E (run E n)) all sz l infos T1 H1 = some (T', H') ∧ K .go T' H' := by
      intro v H1 hp
      unfold putP at hp
      unfold putT
      cases hd : o.dst with
      | none => rw [hd] at hp; exact ⟨T, rfl, wpDraw_sound hp⟩
      | some d =>
        rw [hd] at hp
        have hb : Nat.blt d sz = true := Nat.ble_eq_true_of_le hp.1
        exact ⟨T.set d v, by simp [hb, Tr.force_eq], wpDraw_sound hp.2⟩
    cases b with
    | true =>
      obtain ⟨hst, n1, v, H1, h1, hkp, h2⟩ := hk.1 rfl
      obtain ⟨T1, h3, n2, T', H', h4, h5⟩ := put h2
      refine ⟨max n1 n2, T', H', ?_, h5⟩
      have e1 : exOp E (callWith E (run E (max n1 n2))) T o { objs := H.objs, grps := H.grps, next := H.next, lo := bif i.grow then H.next else H.lo } = some (v, H1) := by
        rw [exOp_dst (o := o) (o' := { dst := none, op := o.op, type := 0, pos := default, after := #[], guard := none }) rfl]
        have : (bif i.grow then H.relo H.next else H) = { objs := H.objs, grps := H.grps, next := H.next, lo := bif i.grow then H.next else H.lo } := by cases i.grow <;> rfl
        rw [← this]
        exact mono_exOp (mono_callWith (run_mono (Nat.le_max_left ..))) h1
      simp only [exDraw, hb, hst, cond_true, e1, Option.bind_some, hkp, h3, forceH_eq]
      exact mono_exDraw (mono_callWith (run_mono (Nat.le_max_right ..))) h4
    | false =>
      obtain ⟨T1, h3, n2, T', H', h4, h5⟩ := put (hk.2 rfl)
      refine ⟨n2, T', H', ?_, h5⟩
      simp only [exDraw, hb, Option.bind_some, h3]
      exact h4
def freeIx (b : List Nat) (i : Nat) : List Oper → Nat → List Nat
  | [], _ => []
  | p :: l, n => bif Nat.beq n i || ordered b i n || !isLoad (kindOf p.op) then freeIx b i l (n + 1) else n :: freeIx b i l (n + 1)
def apartOf (all : List Oper) : List Nat → List Op
  | [] => []
  | k :: l => match all[k]? with
    | some o => o.op :: apartOf all l
    | none => apartOf all l
abbrev Ix := Bool × List Nat × List (TypeId × Tmp × Tmp)
def ixAt (ops : List Oper) (b : List Nat) (n i : Nat) (o : Oper) : Option Ix :=
  bif edgesOk n i o.after.toList && tmpsOk (maskT ((match o.dst with | some d => [d] | none => []) ++ looksOf ops o)) b i ops 0 then
    match kindOf o.op with
    | .store => bif effOk true b i ops 0 then some (false, freeIx b i ops 0, []) else none
    | .call => bif effOk false b i ops 0 then (match keepsFor ops b n i with
      | some ks => some (false, [], ks)
      | none => some (!(freeIx b i ops 0).isEmpty, [], [])) else none
    | _ => some (false, [], [])
  else none
def ixFrom (ops : List Oper) (b : List Nat) (n : Nat) : List Oper → Nat → Option (List Ix)
  | [], _ => some []
  | o :: l, i => (ixAt ops b n i o).bind fun x => (ixFrom ops b n l (i + 1)).bind fun r => some (x :: r)
def ixOf (ops : Array Oper) : Option (List Ix) :=
  bif gcOk ops.toList ops.size 20 0 then ixFrom ops.toList (Region.before ops).toList ops.size ops.toList 0 else none
def infoIx (all : List Oper) (p : Ix) : Info := ⟨p.1, apartOf all p.2.1, p.2.2⟩
theorem freeIx_eq {b : List Nat} {i : Nat} {all : List Oper} : ∀ (l : List Oper) (n : Nat), all.drop n = l → freeLoads b i l n = apartOf all (freeIx b i l n)
  | [], _, _ => rfl
  | p :: l, n, h => by
    have hn : all[n]? = some p := by
      have := congrArg (fun l => l[0]?) h
      simpa using this
    have hl : all.drop (n + 1) = l := by rw [← List.drop_drop, h]; rfl
    simp only [freeLoads, freeIx]
    cases (Nat.beq n i || ordered b i n || !isLoad (kindOf p.op)) with
    | true => exact freeIx_eq l (n + 1) hl
    | false =>
      simp only [cond_false, apartOf, hn]
      rw [freeIx_eq l (n + 1) hl]
theorem apartOf_empty {all : List Oper} : ∀ (l : List Nat), (∀ k ∈ l, (all[k]?).isSome = true) → (apartOf all l).isEmpty = l.isEmpty
  | [], _ => rfl
  | k :: l, h => by
    obtain ⟨o, ho⟩ := Option.isSome_iff_exists.1 (h k (List.mem_cons_self ..))
    simp [apartOf, ho]
theorem freeIx_in {b : List Nat} {i : Nat} {all : List Oper} : ∀ (l : List Oper) (n : Nat), all.drop n = l → ∀ k ∈ freeIx b i l n, (all[k]?).isSome = true
  | [], _, _, k, hk => by simp [freeIx] at hk
  | p :: l, n, h, k, hk => by
    have hn : all[n]? = some p := by
      have := congrArg (fun l => l[0]?) h
      simpa using this
    have hl : all.drop (n + 1) = l := by rw [← List.drop_drop, h]; rfl
    simp only [freeIx] at hk
    cases hc : (Nat.beq n i || ordered b i n || !isLoad (kindOf p.op)) with
    | true => rw [hc] at hk; exact freeIx_in l (n + 1) hl k hk
    | false =>
      rw [hc] at hk
      rcases List.mem_cons.1 hk with rfl | hk
      · rw [hn]; rfl
      · exact freeIx_in l (n + 1) hl k hk
theorem infoAt_ix (ops : List Oper) (b : List Nat) (n i : Nat) (o : Oper) : infoAt ops b n i o = (ixAt ops b n i o).map (infoIx ops) := by
  unfold infoAt ixAt
  cases (edgesOk n i o.after.toList && tmpsOk (maskT ((match o.dst with | some d => [d] | none => []) ++ looksOf ops o)) b i ops 0) with
  | false => rfl
  | true =>
    simp only [cond_true]
    cases kindOf o.op with
    | store =>
      simp only
      cases effOk true b i ops 0 <;> simp only [cond_true, cond_false, Option.map_some, Option.map_none, infoIx]
      rw [freeIx_eq (all := ops) ops 0 rfl]
    | call =>
      simp only
      cases effOk false b i ops 0 <;> simp only [cond_true, cond_false, Option.map_none]
      cases keepsFor ops b n i <;> simp only [Option.map_some, infoIx, apartOf]
      rw [freeIx_eq (all := ops) ops 0 rfl, apartOf_empty _ (freeIx_in ops 0 rfl)]
    | _ => rfl
theorem infosFrom_ix (ops : List Oper) (b : List Nat) (n : Nat) : ∀ (l : List Oper) (i : Nat), infosFrom ops b n l i = (ixFrom ops b n l i).map (List.map (infoIx ops))
  | [], _ => rfl
  | o :: l, i => by
    simp only [infosFrom, ixFrom, infoAt_ix, infosFrom_ix ops b n l (i + 1)]
    cases ixAt ops b n i o with
    | none => rfl
    | some x =>
      simp only [Option.map_some, Option.bind_some]
      cases ixFrom ops b n l (i + 1) <;> rfl
theorem infos_ix (ops : Array Oper) : infosOf ops = (ixOf ops).map (List.map (infoIx ops.toList)) := by
  unfold infosOf ixOf
  cases gcOk ops.toList ops.size 20 0 with
  | false => rfl
  | true => exact infosFrom_ix ..
theorem wps_draw {ops : Array Oper} {Q : Ex → Tr Value → List Nat → Heap → Prop} (ix : List Ix) (hi : ixOf ops = some ix) (h : wpDraw .go E ops.toList pf sz ops.toList pf (ix.map (infoIx ops.toList)) T H fun _ T' H' => Q .normal T' mk H') : WPS E sz (.region id ops true) T mk ro H Q := by
  obtain ⟨n, T', H', h1, h2⟩ := wpDraw_sound h
  refine ⟨n + 1, .normal, T', mk, H', ?_, h2⟩
  have l1 : Maps.lim sz = true := rfl
  have l2 : Maps.lim H'.next = true := rfl
  have hi' : infosOf ops = some (ix.map (infoIx ops.toList)) := by rw [infos_ix, hi]; rfl
  simp only [run, runWith, drawV, l1, Bool.not_true, cond_false, hi', Option.bind_some, h1, l2, cond_true]
theorem map_infoIx_nil (all : List Oper) : List.map (infoIx all) [] = [] := Eq.trans rfl rfl
theorem map_infoIx_cons (all : List Oper) (g : Bool) (ix : List Nat) (ks : List (TypeId × Tmp × Tmp)) (l : List Ix) : List.map (infoIx all) ((g, ix, ks) :: l) = ⟨g, apartOf all ix, ks⟩ :: List.map (infoIx all) l := Eq.trans rfl rfl
theorem apartOf_nil (all : List Oper) : apartOf all [] = [] := Eq.trans rfl rfl
theorem apartOf_cons (all : List Oper) (k : Nat) (l : List Nat) : apartOf all (k :: l) = match all[k]? with
    | some o => o.op :: apartOf all l
    | none => apartOf all l := Eq.trans rfl rfl
theorem wpDraw_nil {K : Tok → Tr Value → Heap → Prop} (is : List Info) {p1 : Pf all} {p2 : Pf ([] : List Oper)} : wpDraw .go E all p1 sz [] p2 is T H K = K .go T H := by simp only [wpDraw]
theorem wpDraw_cons {K : Tok → Tr Value → Heap → Prop} (d : Option Tmp) (o : Op) (ty : TypeId) (p : String) (a : Array Edge) (g : Bool) (ap : List Op) (is : List Info) (rest : List Oper) {p1 : Pf all} {p2 : Pf (⟨d, o, ty, p, a, none⟩ :: rest)} : wpDraw .go E all p1 sz (⟨d, o, ty, p, a, none⟩ :: rest) p2 (⟨g, ap, []⟩ :: is) T H K =
    (storeApart E T H o ap = true ∧ OP .go E T o (bif g then H.relo H.next else H) fun t v H' => putP t sz T d v fun t T' => wpDraw t E all pf sz rest pf is T' (H'.relo H.lo) K) := by
  simp only [wpDraw, keepOk, true_and, wantedA_none, optP_some, boolP_true]
theorem wpDraw_guard {K : Tok → Tr Value → Heap → Prop} (d : Option Tmp) (o : Op) (ty : TypeId) (p : String) (a : Array Edge) (j : Nat) (w g : Bool) (ap : List Op) (is : List Info) (rest : List Oper) {p1 : Pf all} {p2 : Pf (⟨d, o, ty, p, a, some (j, w)⟩ :: rest)} : wpDraw .go E all p1 sz (⟨d, o, ty, p, a, some (j, w)⟩ :: rest) p2 (⟨g, ap, []⟩ :: is) T H K =
    optP .go (guardV T ((all[j]?).bind (·.dst)) w) fun _ b => boolP b (fun t => storeApart E T H o ap = true ∧ OP t E T o (bif g then H.relo H.next else H) fun t v H' => putP t sz T d v fun t T' => wpDraw t E all pf sz rest pf is T' (H'.relo H.lo) K)
      (fun t => putP t sz T d undef fun t T' => wpDraw t E all pf sz rest pf is T' H K) := by
  simp only [wpDraw, keepOk, true_and, wantedA_some]
theorem wpDraw_keep {K : Tok → Tr Value → Heap → Prop} (d : Option Tmp) (o : Op) (ty : TypeId) (p : String) (a : Array Edge) (g : Bool) (ap : List Op) (k : TypeId × Tmp × Tmp) (ks : List (TypeId × Tmp × Tmp)) (is : List Info) (rest : List Oper) {p1 : Pf all} {p2 : Pf (⟨d, o, ty, p, a, none⟩ :: rest)} : wpDraw .go E all p1 sz (⟨d, o, ty, p, a, none⟩ :: rest) p2 (⟨g, ap, k :: ks⟩ :: is) T H K =
    (storeApart E T H o ap = true ∧ OP .go E T o (bif g then H.relo H.next else H) fun t v H' => keepOk E T H' (k :: ks) = true ∧ putP t sz T d v fun t T' => wpDraw t E all pf sz rest pf is T' (H'.relo H.lo) K) := by
  simp only [wpDraw, wantedA_none, optP_some, boolP_true]
theorem relo_self : H.relo H.lo = H := Eq.trans rfl rfl
theorem relo_eq {n : Nat} (h : H.lo = n) : H.relo n = H := by subst h; rfl
theorem relo_relo (a b : Nat) : (H.relo a).relo b = H.relo b := Eq.trans rfl rfl
theorem relo_next (a : Nat) : (H.relo a).next = H.next := Eq.trans rfl rfl
theorem relo_lo (a : Nat) : (H.relo a).lo = a := Eq.trans rfl rfl
theorem relo_objs (a : Nat) : (H.relo a).objs = H.objs := Eq.trans rfl rfl
theorem relo_grps (a : Nat) : (H.relo a).grps = H.grps := Eq.trans rfl rfl
theorem newRow_relo (c : List Value) (a : Nat) : (H.newRow c).relo a = (H.relo a).newRow c := by
  simp only [Heap.newRow, Heap.add, forceNat_eq, Tr.force_eq, Heap.relo]
theorem apart_nil (o : Op) : storeApart E T H o [] = true := Eq.trans rfl rfl
end
end Go.AM

namespace Go.AM
attribute [local instance] fnMaps
def zeroOf (E : Env) (t : TypeId) : Option Value := (E.ty.get t).bind (·.zero)
theorem nbeq_ne {a b : Nat} (h : a ≠ b) : (a == b) = false := by simpa using h
theorem nbeq_eq {a b : Nat} (h : a = b) : (a == b) = true := by simpa using h
section
variable {E : Env} {sz : Nat} {T : Tr Value} {H : Heap}
theorem at_eq (i : Int) (n : Nat) : at? i n = if 0 ≤ i ∧ i < n then some i.toNat else none := by
  cases i with
  | ofNat i =>
    simp only [at?]
    by_cases h : i < n
    · rw [show Nat.blt i n = true from Nat.ble_eq_true_of_le h, cond_true, if_pos ⟨Int.natCast_nonneg i, Int.ofNat_lt.2 h⟩]; rfl
    · rw [show Nat.blt i n = false from Bool.eq_false_iff.2 fun hh => h (Nat.le_of_ble_eq_true hh), cond_false, if_neg (fun hh => h (Int.ofNat_lt.1 hh.2))]
  | negSucc i => simp only [at?]; rw [if_neg (fun hh => by have := hh.1; simp at this)]
theorem to_eq (i : Int) (n : Nat) : to? i n = if 0 ≤ i ∧ i ≤ n then some i.toNat else none := by
  cases i with
  | ofNat i =>
    simp only [to?]
    by_cases h : i ≤ n
    · rw [Nat.ble_eq_true_of_le h, cond_true, if_pos ⟨Int.natCast_nonneg i, Int.ofNat_le.2 h⟩]; rfl
    · rw [show Nat.ble i n = false from Bool.eq_false_iff.2 fun hh => h (Nat.le_of_ble_eq_true hh), cond_false, if_neg (fun hh => h (Int.ofNat_le.1 hh.2))]
  | negSucc i => simp only [to?]; rw [if_neg (fun hh => by have := hh.1; simp at this)]
theorem at_nat {i n : Nat} (h : i < n) : at? (i : Int) n = some i := by
  rw [at_eq, if_pos ⟨Int.natCast_nonneg i, Int.ofNat_lt.2 h⟩]; rfl
theorem at_in {i : Int} {n : Nat} (h0 : 0 ≤ i) (h : i < n) : at? i n = some i.toNat := by rw [at_eq, if_pos ⟨h0, h⟩]
theorem named {α : Type} (x : α) {P : Prop} (h : ∀ y, y = x → P) : P := h x rfl
def Hid (p : Prop) : Prop := p
def Heap.setRow (H : Heap) (r : Nat) (cells : List Value) : Heap := { objs := H.objs.set r (.row cells none true), grps := H.grps, next := H.next, lo := H.lo }
theorem setRow_get (c : List Value) (r x : Nat) : (H.setRow r c).objs.get x = bif x == r then some (.row c none true) else H.objs.get x := by
  show (if x = r then some _ else H.objs x) = _
  by_cases h : x = r
  · simp [h]
  · have h' : (x == r) = false := by simpa using h
    rw [if_neg h, h']; rfl
theorem setRow_next (c : List Value) (r : Nat) : (H.setRow r c).next = H.next := Eq.trans rfl rfl
theorem setRow_lo (c : List Value) (r : Nat) : (H.setRow r c).lo = H.lo := Eq.trans rfl rfl
theorem setRow_grps (c : List Value) (r : Nat) : (H.setRow r c).grps = H.grps := Eq.trans rfl rfl
theorem setRow_relo (c : List Value) (r a : Nat) : (H.setRow r c).relo a = (H.relo a).setRow r c := Eq.trans rfl rfl
theorem newRow_grps (c : List Value) : (H.newRow c).grps = H.grps := add_grps H _
def rowWrite (H : Heap) (r o : Nat) (new : List Value) : Option AObj → Option Heap
  | some (.row cells none true) => if H.lo ≤ r ∧ new.all isCell = true ∧ o + new.length ≤ cells.length then some (H.setRow r (over new o cells)) else none
  | _ => none
theorem write_own {r o : Nat} {new cells : List Value} (hr : H.objs.get r = some (.row cells none true)) : H.write r o new = rowWrite H r o new (some (.row cells none true)) := by
  simp only [rowWrite, Heap.write, hr, Tr.force_eq]
  by_cases h1 : H.lo ≤ r
  · by_cases h2 : new.all isCell = true
    · by_cases h3 : o + new.length ≤ cells.length
      · rw [if_pos ⟨h1, h2, h3⟩, Nat.ble_eq_true_of_le h1, h2, Nat.ble_eq_true_of_le h3]; rfl
      · rw [if_neg fun h => h3 h.2.2, Nat.ble_eq_true_of_le h1, h2, show Nat.ble (o + new.length) cells.length = false from Bool.eq_false_iff.2 fun hh => h3 (Nat.le_of_ble_eq_true hh)]; rfl
    · rw [if_neg fun h => h2 h.2.1, Nat.ble_eq_true_of_le h1, Bool.eq_false_iff.2 h2]; rfl
  · rw [if_neg fun h => h1 h.1, show Nat.ble H.lo r = false from Bool.eq_false_iff.2 fun hh => h1 (Nat.le_of_ble_eq_true hh)]; rfl
def Heap.writeG (H : Heap) (r o : Nat) (new : List Value) : Option Heap := H.write r o new
def writeV (H : Heap) (r o : Nat) (new : List Value) : Option AObj → Option Heap
  | some (.row cells none true) => bif decide (H.lo ≤ r) && new.all isCell && decide (o + new.length ≤ cells.length) then some (H.setRow r (over new o cells)) else none
  | some (.row _ (some _) true) => H.writeG r o new
  | _ => none
theorem write_eq (r o : Nat) (new : List Value) : H.write r o new = writeV H r o new (H.objs.get r) := by
  cases h : H.objs.get r with
  | none =>
    simp only [writeV, Heap.write, h]
    exact Bool.cond_self ..
  | some ob =>
    match ob, h with
    | .row cells none true, h =>
      rw [write_own h]
      simp only [writeV, rowWrite]
      by_cases h1 : H.lo ≤ r <;> by_cases h2 : new.all isCell = true <;> by_cases h3 : o + new.length ≤ cells.length <;> simp [h1, h2, h3]
    | .row cells none false, h => simp only [writeV, Heap.write, h]; exact Bool.cond_self ..
    | .row cells (some g) true, h => rfl
    | .row cells (some g) false, h => simp only [writeV, Heap.write, h]; exact Bool.cond_self ..
    | .map _, h => simp only [writeV, Heap.write, h]; exact Bool.cond_self ..
    | .loop .., h => simp only [writeV, Heap.write, h]; exact Bool.cond_self ..
    | .defers, h => simp only [writeV, Heap.write, h]; exact Bool.cond_self ..
    | .iter .., h => simp only [writeV, Heap.write, h]; exact Bool.cond_self ..
    | .siter .., h => simp only [writeV, Heap.write, h]; exact Bool.cond_self ..
    | .mapg .., h => simp only [writeV, Heap.write, h]; exact Bool.cond_self ..
    | .iterg .., h => simp only [writeV, Heap.write, h]; exact Bool.cond_self ..
theorem writeV_own (r o : Nat) (new cells : List Value) : writeV H r o new (some (.row cells none true)) = bif decide (H.lo ≤ r) && new.all isCell && decide (o + new.length ≤ cells.length) then some (H.setRow r (over new o cells)) else none := Eq.trans rfl rfl
theorem dle {a b : Nat} (h : a ≤ b) : decide (a ≤ b) = true := by simpa using h
theorem isCell_int (k : IntKind) (n : Int) : isCell (.int k n) = true := Eq.trans rfl rfl
theorem isCell_bool (b : Bool) : isCell (.bool b) = true := Eq.trans rfl rfl
theorem isCell_slice (a : Option Addr) (l c : Nat) : isCell (.slice a l c) = true := Eq.trans rfl rfl
theorem isCell_ptr (a : Option Addr) : isCell (.pointer a) = true := Eq.trans rfl rfl
theorem isCell_str (s : ByteArray) : isCell (.string s) = true := Eq.trans rfl rfl
theorem isCell_ptr' (r o : Nat) : isCell (ptr r o) = true := Eq.trans rfl rfl
theorem storeV_ptr {t r o : Nat} {v : Value} : storeV E H t (ptr r o) v = (E.size t).bind fun n => bif (cellsV v).length == n then H.write r o (cellsV v) else none := by
  simp only [storeV, ptr]
  congr 1; funext n
  have : Nat.beq (cellsV v).length n = ((cellsV v).length == n) := by
    by_cases h : (cellsV v).length = n
    · rw [h, Nat.beq_refl]; simp
    · rw [nbeq_ne h, Bool.eq_false_iff]; intro hh; exact h (Nat.eq_of_beq_eq_true hh)
  rw [this]
theorem over_zero (new l : List Value) : over new 0 l = new ++ l.drop new.length := Eq.trans rfl rfl
theorem over_succ (new : List Value) (o : Nat) (x : Value) (l : List Value) : over new (o + 1) (x :: l) = x :: over new o l := Eq.trans rfl rfl
theorem ble_dec (a b : Nat) : Nat.ble a b = decide (a ≤ b) := by
  by_cases h : a ≤ b
  · rw [Nat.ble_eq_true_of_le h]; simp [h]
  · rw [show Nat.ble a b = false from Bool.eq_false_iff.2 fun hh => h (Nat.le_of_ble_eq_true hh)]; simp [h]
theorem beq_dec (a b : Nat) : Nat.beq a b = decide (a = b) := by
  by_cases h : a = b
  · rw [h, Nat.beq_refl]; simp
  · rw [show Nat.beq a b = false from Bool.eq_false_iff.2 fun hh => h (Nat.eq_of_beq_eq_true hh)]; simp [h]
def rowCut (o n : Nat) : AObj → Option (List Value)
  | .row cells _ _ => cut cells o n
  | _ => none
theorem rowCut_row (cells : List Value) (g : Option (Nat × Nat)) (t : Bool) (o n : Nat) : rowCut o n (.row cells g t) = cut cells o n := Eq.trans rfl rfl
theorem cellsOf_some (n r o l c : Nat) : cellsOf H n (.slice (some ⟨r, o, none⟩) l c) = (H.objs.get r).bind (rowCut o n) := by
  simp only [cellsOf]
  cases H.objs.get r with
  | none => rfl
  | some ob => cases ob <;> rfl
theorem cellsOf_none (n l c : Nat) : cellsOf H n (.slice none l c) = if n = 0 then some [] else none := by
  simp only [cellsOf, beq_dec]
  by_cases h : n = 0 <;> simp [h]
def buildSliceV (E : Env) (T : Tr Value) (H : Heap) (t : TypeId) (len : Nat) (parts : List (Nat × Operand)) : Option (Value × Heap) :=
  (E.ty.get t).bind fun i =>
    match i.desc with
    | .slice e => (E.ty.get e).bind fun j => j.zero.bind fun z =>
      bif !Nat.beq (cellsV z).length j.size || !Nat.ble (len * j.size) 10000000 || Nat.beq j.size 0 then none else
      (evParts T (fun k => some (k * j.size, j.size)) parts).bind fun ps => (fillV (repeatCells (cellsV z) len) ps).bind fun l =>
        some (.slice (some ⟨H.next, 0, none⟩) len len, H.newRow l)
    | _ => none
theorem OP_buildSlice {K : Tok → Value → Heap → Prop} (ty : TypeId) (len : Nat) (ps : Array (Nat × Operand)) : OP .go E T (.buildSlice ty len ps) H K = resP .go (buildSliceV E T H ty len ps.toList) K := by
  rw [OP_det fun _ => rfl]; rfl
theorem evParts_nil (pl : Nat → Option (Nat × Nat)) : evParts T pl [] = some [] := Eq.trans rfl rfl
theorem evParts_cons (pl : Nat → Option (Nat × Nat)) (i : Nat) (x : Operand) (l : List (Nat × Operand)) : evParts T pl ((i, x) :: l) = (pl i).bind fun p => (ev T x).bind fun v => (evParts T pl l).bind fun r => some ((p.1, p.2, v) :: r) := Eq.trans rfl rfl
theorem fillV_nil (cells : List Value) : fillV cells [] = some cells := Eq.trans rfl rfl
theorem fillV_cons (cells : List Value) (off size : Nat) (v : Value) (rest : List (Nat × Nat × Value)) : fillV cells ((off, size, v) :: rest) = bif decide ((cellsV v).length = size) && decide (off + size ≤ cells.length) then fillV (over (cellsV v) off cells) rest else none := by
  simp only [fillV, cells_toList, beq_dec, ble_dec]
theorem repeat_zero (z : List Value) : repeatCells z 0 = [] := Eq.trans rfl rfl
theorem repeat_succ (z : List Value) (n : Nat) : repeatCells z (n + 1) = z ++ repeatCells z n := Eq.trans rfl rfl
theorem eqFields_nil (eqv : TypeId → Value → Value → Option Bool) (xs ys : List Value) : eqFields E eqv xs ys [] = some true := Eq.trans rfl rfl
def andO : Bool → Option Bool → Option Bool
  | true, o => o
  | false, _ => some false
theorem andO_some (a b : Bool) : andO a (some b) = some (a && b) := by cases a <;> rfl
theorem eqFields_cons (eqv : TypeId → Value → Value → Option Bool) (xs ys : List Value) (o : Nat) (t : TypeId) (fs : List (Nat × TypeId)) : eqFields E eqv xs ys ((o, t) :: fs) =
    (partV E t xs o).bind fun a => (partV E t ys o).bind fun b => (eqv t a b).bind fun r => andO r (eqFields E eqv xs ys fs) := by
  simp only [eqFields]
  congr 1; funext a; congr 1; funext b; congr 1; funext r
  cases r <;> rfl
theorem OP_alloc' {K : Tok → Value → Heap → Prop} (ty : TypeId) : OP .go E T (.alloc ty) H K = optP .go (zeroOf E ty) fun t z => K t (ptr H.next 0) (H.newRow (cellsV z)) := OP_alloc ty
def apT (H : Heap) (r o n : Nat) (v : Option Value) : Option (Option Nat) → Bool
  | some a => match v with
    | some (.pointer (some ⟨r', o', none⟩)) => bif r == r' then decide (o + n ≤ o') || decide (o' + a.getD 1 ≤ o) else (H.objs.get r').isSome
    | _ => true
  | none => true
def alone : Option AObj → Bool
  | some (.row _ none _) => true
  | _ => false
def apV (E : Env) (T : Tr Value) (H : Heap) (n : Nat) (l : List Op) : Option Value → Bool
  | some (.pointer (some ⟨r, o, none⟩)) => alone (H.objs.get r) && apartFrom E T H r o n l
  | _ => false
theorem apartFrom_nil (r o n : Nat) : apartFrom E T H r o n [] = true := Eq.trans rfl rfl
theorem beq_nat (a b : Nat) : Nat.beq a b = (a == b) := by
  by_cases h : a = b
  · rw [h, Nat.beq_refl]; simp
  · rw [nbeq_ne h, Bool.eq_false_iff]; intro hh; exact h (Nat.eq_of_beq_eq_true hh)
theorem apartFrom_load (r o n : Nat) (ty : TypeId) (x : Operand) (l : List Op) : apartFrom E T H r o n (.load ty x :: l) = (apT H r o n (ev T x) (aggOf E ty) && apartFrom E T H r o n l) := by
  simp only [apartFrom, footOf]
  congr 1
  cases ev T x with
  | none => cases aggOf E ty <;> rfl
  | some v =>
    simp only [Option.bind_some, aggOf]
    cases E.ty.get ty with
    | none => rfl
    | some i =>
      simp only [Option.bind_some]
      unfold apT
      cases v with
      | pointer a =>
        match a with
        | none => rfl
        | some ⟨r', o', some _⟩ => rfl
        | some ⟨r', o', none⟩ =>
          simp only [beq_nat, ble_dec]
          congr 1
          congr 2
          cases i.agg <;> rfl
      | _ => rfl
theorem apartFrom_len (r o n : Nat) (as : Array Operand) (ts : Array TypeId) (l : List Op) : apartFrom E T H r o n (.call { callee := .builtin .len, args := as, argTypes := ts } :: l) = apartFrom E T H r o n l := by simp only [apartFrom, footOf, Bool.true_and]
def apS (H : Heap) (r : Nat) : Option Value → Bool
  | some (.slice (some ⟨r', _, none⟩) _ _) => bif r == r' then true else (H.objs.get r').isSome
  | some (.pointer (some ⟨r', _, none⟩)) => bif r == r' then true else (H.objs.get r').isSome
  | _ => true
theorem apS_slice (r r' o l c : Nat) : apS H r (some (.slice (some ⟨r', o, none⟩) l c)) = bif r == r' then true else (H.objs.get r').isSome := Eq.trans rfl rfl
theorem apS_ptr (r r' o : Nat) : apS H r (some (ptr r' o)) = bif r == r' then true else (H.objs.get r').isSome := Eq.trans rfl rfl
theorem apS_nil (r l c : Nat) : apS H r (some (.slice none l c)) = true := Eq.trans rfl rfl
theorem apartFrom_slice (r o n : Nat) (t : TypeId) (x : Operand) (a b c : Option Operand) (l : List Op) : apartFrom E T H r o n (.slice t x a b c :: l) = (apS H r (ev T x) && apartFrom E T H r o n l) := by
  have key : ∀ r', (bif Nat.beq r r' then Nat.ble (o + n) 0 || Nat.ble (0 + 0) o else (H.objs.get r').isSome) = bif r == r' then true else (H.objs.get r').isSome := fun r' => by
    rw [beq_nat, Nat.ble_eq_true_of_le (by omega : 0 + 0 ≤ o), Bool.or_true]
  simp only [apartFrom, footOf]
  congr 1
  cases ev T x with
  | none => rfl
  | some v =>
    cases v with
    | slice ad l c =>
      cases ad with
      | none => rfl
      | some ad =>
        obtain ⟨r', o', el⟩ := ad
        cases el with
        | none => exact key r'
        | some _ => rfl
    | pointer ad =>
      cases ad with
      | none => rfl
      | some ad =>
        obtain ⟨r', o', el⟩ := ad
        cases el with
        | none => exact key r'
        | some _ => rfl
    | _ => rfl
theorem apart_cons (t : TypeId) (x y : Operand) (p : Op) (l : List Op) : storeApart E T H (.store t x y) (p :: l) = (match E.size t with
    | some n => apV E T H n (p :: l) (ev T x)
    | none => false) := by
  simp only [storeApart, footOf]
  cases ev T x with
  | none => cases E.size t <;> rfl
  | some v =>
    cases E.size t with
    | none => rfl
    | some n =>
      simp only [Option.bind_some]
      unfold apV
      cases v with
      | pointer a =>
        match a with
        | none => rfl
        | some ⟨r', o', some _⟩ => rfl
        | some ⟨r', o', none⟩ =>
          simp only [alone]
          cases H.objs.get r' with
          | none => rfl
          | some ob => match ob with
            | .row _ none _ => rfl
            | .row _ (some _) _ => rfl
            | .map _ => rfl
            | .loop .. => rfl
            | .defers => rfl
            | .iter .. => rfl
            | .siter .. => rfl
            | .mapg .. => rfl
            | .iterg .. => rfl
      | _ => rfl
theorem apV_ptr (n : Nat) (l : List Op) (r o : Nat) : apV E T H n l (some (ptr r o)) = (alone (H.objs.get r) && apartFrom E T H r o n l) := Eq.trans rfl rfl
theorem apT_ptr (r o n r' o' : Nat) (a : Option Nat) : apT H r o n (some (ptr r' o')) (some a) = bif r == r' then decide (o + n ≤ o') || decide (o' + a.getD 1 ≤ o) else (H.objs.get r').isSome := Eq.trans rfl rfl
theorem alone_row (c : List Value) (t : Bool) : alone (some (.row c none t)) = true := Eq.trans rfl rfl
structure Same (H H' : Heap) : Prop where
  lo : H'.lo = H.lo
  nxt : H.next ≤ H'.next
  objs : ∀ x, x < H.next → H'.objs.get x = H.objs.get x
  grps : ∀ x, x < H.next → H'.grps.get x = H.grps.get x
theorem Same.refl (H : Heap) : Same H H := ⟨rfl, Nat.le_refl _, fun _ _ => rfl, fun _ _ => rfl⟩
theorem Same.trans {H' H'' : Heap} (h : Same H H') (h' : Same H' H'') : Same H H'' :=
  ⟨h'.lo.trans h.lo, Nat.le_trans h.nxt h'.nxt, fun x hx => (h'.objs x (Nat.lt_of_lt_of_le hx h.nxt)).trans (h.objs x hx), fun x hx => (h'.grps x (Nat.lt_of_lt_of_le hx h.nxt)).trans (h.grps x hx)⟩
theorem same_newRow (c : List Value) : Same H (H.newRow c) :=
  ⟨newRow_lo c, by rw [newRow_next]; omega, fun x hx => by rw [newRow_get, nbeq_ne (by omega)]; rfl, fun x hx => by rw [newRow_grps]⟩
theorem Same.newRow {H0 : Heap} (h : Same H0 H) (c : List Value) : Same H0 (H.newRow c) := h.trans (same_newRow c)
theorem Same.setRow {H0 : Heap} (h : Same H0 H) {r : Nat} (hr : H0.next ≤ r) (c : List Value) : Same H0 (H.setRow r c) :=
  ⟨h.lo, h.nxt, fun x hx => by rw [setRow_get, nbeq_ne (by omega)]; exact h.objs x hx, h.grps⟩
theorem Same.keeps {H' : Heap} (h : Same H H') {r : Nat} {ob : AObj} (hr : r < H.next) (ho : H.objs.get r = some ob) : H'.objs.get r = some ob := by rw [h.objs r hr, ho]
theorem Same.relo {H' : Heap} {n : Nat} (h : Same (H.relo n) H') : Same H (H'.relo H.lo) := ⟨rfl, h.nxt, h.objs, h.grps⟩
def SL {α : Type} (R : Heap → List Value → α → Prop) (z : Nat) (H : Heap) (v : Value) (l : List α) : Prop :=
  ∃ a cap, v = .slice a l.length cap ∧ (l.length ≤ cap ∧ l.length ≤ 9223372036854775807) ∧ ∀ i x, l[i]? = some x → ∃ r o cells g t part, a = some ⟨r, o, none⟩ ∧ r < H.next ∧ H.objs.get r = some (.row cells g t) ∧ cut cells (o + i * z) z = some part ∧ R H part x
structure Ext (H H' : Heap) : Prop where
  nxt : H.next ≤ H'.next
  rows : ∀ x cells g t, x < H.next → H.objs.get x = some (.row cells g t) → ∃ t', H'.objs.get x = some (.row cells g t')
theorem Same.ext {H' : Heap} (h : Same H H') : Ext H H' := ⟨h.nxt, fun _ _ _ t hx ho => ⟨t, h.keeps hx ho⟩⟩
theorem Ext.trans {H' H'' : Heap} (h : Ext H H') (h' : Ext H' H'') : Ext H H'' :=
  ⟨Nat.le_trans h.nxt h'.nxt, fun x c g t hx ho => let ⟨t', h1⟩ := h.rows x c g t hx ho; h'.rows x c g t' (Nat.lt_of_lt_of_le hx h.nxt) h1⟩
def Mono {α : Type} (R : Heap → List Value → α → Prop) : Prop := ∀ H H' part x, Ext H H' → R H part x → R H' part x
theorem SL.ext {α : Type} {R : Heap → List Value → α → Prop} (hR : Mono R) {z : Nat} {H' : Heap} {v : Value} {l : List α} (h : SL R z H v l) (hs : Ext H H') : SL R z H' v l := by
  obtain ⟨a, cap, h1, h2, h3⟩ := h
  refine ⟨a, cap, h1, h2, fun i x hi => ?_⟩
  obtain ⟨r, o, cells, g, t, part, h4, h5, h6, h7, h8⟩ := h3 i x hi
  obtain ⟨t', h9⟩ := hs.rows r cells g t h5 h6
  exact ⟨r, o, cells, g, t', part, h4, Nat.lt_of_lt_of_le h5 hs.nxt, h9, h7, hR _ _ _ _ hs h8⟩
theorem SL.mono {α : Type} {R : Heap → List Value → α → Prop} (hR : Mono R) {z : Nat} {H' : Heap} {v : Value} {l : List α} (hs : Same H H') (h : SL R z H v l) : SL R z H' v l := h.ext hR hs.ext
theorem SL.cell {α : Type} {R : Heap → List Value → α → Prop} {z : Nat} {v : Value} {l : List α} (h : SL R z H v l) : isCell v = true := by
  obtain ⟨a, cap, rfl, _⟩ := h; rfl
theorem SL.cells {α : Type} {R : Heap → List Value → α → Prop} {z : Nat} {v : Value} {l : List α} (h : SL R z H v l) : cellsV v = [v] := by
  obtain ⟨a, cap, rfl, _⟩ := h; rfl
theorem SL.nil {α : Type} (R : Heap → List Value → α → Prop) (z : Nat) (cap : Nat) : SL R z H (.slice none 0 cap) [] := ⟨none, cap, rfl, ⟨Nat.zero_le _, by simp⟩, fun i x hi => by simp at hi⟩
theorem SL.setRow {α : Type} {R : Heap → List Value → α → Prop} {z : Nat} {v : Value} {l : List α} {x : Nat} {c0 c : List Value} (h : SL R z H v l) (hx : H.objs.get x = some (.row c0 none true)) (hno : ∀ o part y, cut c0 o z = some part → R H part y → False) (hR : ∀ part y, R H part y → R (H.setRow x c) part y) : SL R z (H.setRow x c) v l := by
  obtain ⟨a, cap, h1, h2, h3⟩ := h
  refine ⟨a, cap, h1, h2, fun i y hi => ?_⟩
  obtain ⟨r, o, cells, g, t, part, h4, h5, h6, h7, h8⟩ := h3 i y hi
  have hne : r ≠ x := fun e => by
    rw [e, hx] at h6
    simp only [Option.some.injEq, AObj.row.injEq] at h6
    obtain ⟨rfl, _, _⟩ := h6
    exact hno _ _ _ h7 h8
  exact ⟨r, o, cells, g, t, part, h4, h5, by rw [setRow_get, nbeq_ne hne]; exact h6, h7, hR _ _ h8⟩
theorem cut_len {l part : List Value} {o n : Nat} (h : cut l o n = some part) : part.length = n ∧ o + n ≤ l.length ∧ part = (l.drop o).take n := by
  rw [cut_eq] at h
  split at h
  · rename_i hle
    simp only [Option.some.injEq] at h
    subst h
    refine ⟨by simp; omega, hle, rfl⟩
  · cases h
def RInt (k : IntKind) : Heap → List Value → Int → Prop := fun _ part n => part = [.int k n]
theorem RInt.mono (k : IntKind) : Mono (RInt k) := fun _ _ _ _ _ h => h
theorem SL.ofRow {α : Type} {R : Heap → List Value → α → Prop} {z r cap : Nat} {cells : List Value} {g : Option (Nat × Nat)} {t : Bool} {l : List α} (hr : r < H.next) (hrow : H.objs.get r = some (.row cells g t)) (hcap : l.length ≤ cap) (hlen : l.length ≤ 9223372036854775807)
    (h : ∀ i x, l[i]? = some x → ∃ part, cut cells (i * z) z = some part ∧ R H part x) : SL R z H (.slice (some ⟨r, 0, none⟩) l.length cap) l := by
  refine ⟨_, cap, rfl, ⟨hcap, hlen⟩, fun i x hi => ?_⟩
  obtain ⟨part, h1, h2⟩ := h i x hi
  exact ⟨r, 0, cells, g, t, part, rfl, hr, hrow, by rw [Nat.zero_add]; exact h1, h2⟩
theorem wrap_i64 {n : Int} (h1 : -9223372036854775808 ≤ n) (h2 : n ≤ 9223372036854775807) : IntKind.i64.wrap n = n := wrap_in .i64 n h1 h2
theorem wrap_u64 {n : Int} (h1 : 0 ≤ n) (h2 : n ≤ 18446744073709551615) : IntKind.u64.wrap n = n := wrap_in .u64 n h1 h2
theorem wrap_u8 {n : Int} (h1 : 0 ≤ n) (h2 : n ≤ 255) : IntKind.u8.wrap n = n := wrap_in .u8 n h1 h2
def Heap.grow1 (H : Heap) (r : Nat) (cells : List Value) (g z : Nat) (old : List Nat) (new : List Value) : Heap :=
  { objs := (H.objs.set r (.row cells (some (g, z)) false)).set H.next (.row new (some (g, z)) true), grps := H.grps.set g (r :: old), next := H.next + 1, lo := H.lo }
def Own (b z : Nat) (H : Heap) (v : Value) (n : Nat) (cs : List Value) : Prop :=
  cs.length = n * z ∧ ((v = .slice none 0 0 ∧ n = 0) ∨
    ∃ r, v = .slice (some ⟨r, 0, none⟩) n n ∧ b ≤ r ∧ r < H.next ∧
      (H.objs.get r = some (.row cs none true) ∨ ∃ g old, H.objs.get r = some (.row cs (some (g, z)) true) ∧ b ≤ g ∧ g < H.next ∧ H.grps.get g = some old))
def growOk (size bytes need : Nat) : Bool := !Nat.beq size 0 && Nat.ble (need * bytes) 10000000000 && Nat.ble need 1000000000 && true
def appendT (size bytes : Nat) (H : Heap) (s : Value) (k : Nat) (new : List Value) : Option (Value × Heap) :=
  match s with
  | .slice none len cap =>
    bif Nat.ble (len + k) cap then some (.slice none (len + k) cap, H)
    else bif !growOk size bytes (len + k) || !Nat.beq len 0 then none
    else some (.slice (some ⟨H.next, 0, none⟩) (len + k) (len + k), H.newApp size new)
  | .slice (some ⟨r, o, none⟩) len cap =>
    bif Nat.ble (len + k) cap then
      bif Nat.beq k 0 then some (.slice (some ⟨r, o, none⟩) (len + k) cap, H)
      else (H.write r (o + len * size) new).bind fun H => some (.slice (some ⟨r, o, none⟩) (len + k) cap, H)
    else bif !growOk size bytes (len + k) then none
    else
      match H.objs.get r with
      | some (.row cells none _) =>
        (cut cells o (len * size)).bind fun l => some (.slice (some ⟨H.next, 0, none⟩) (len + k) (len + k), H.newApp size (l ++ new))
      | some (.row cells (some (g, z)) true) =>
        bif Nat.beq (o + len * size) cells.length && Nat.ble H.lo r && Nat.beq z size && new.all isCell then
          (cut cells o (len * size)).bind fun l => (H.grow r cells g z (l ++ new)).bind fun H' => some (.slice (some ⟨H.next, 0, none⟩) (len + k) (len + k), H')
        else none
      | _ => none
  | _ => none
structure Grown (b : Nat) (H H' : Heap) : Prop where
  lo : H'.lo = H.lo
  nxt : H.next ≤ H'.next
  below : ∀ x, x < b → H'.objs.get x = H.objs.get x ∧ H'.grps.get x = H.grps.get x
  alone : ∀ x cells t, x < H.next → H.objs.get x = some (.row cells none t) → H'.objs.get x = some (.row cells none t)
  cells : ∀ x cells g t, x < H.next → H.objs.get x = some (.row cells g t) → ∃ t', H'.objs.get x = some (.row cells g t')
theorem newApp_get (z : Nat) (c : List Value) (x : Nat) : (H.newApp z c).objs.get x = bif x == H.next then some (.row c (some (H.next, z)) true) else H.objs.get x := by
  simp only [Heap.newApp, forceNat_eq, Tr.force_eq]
  show (if x = H.next then some _ else H.objs x) = _
  by_cases h : x = H.next
  · simp [h]
  · have h' : (x == H.next) = false := by simpa using h
    rw [if_neg h, h']; rfl
theorem newApp_grps (z : Nat) (c : List Value) (x : Nat) : (H.newApp z c).grps.get x = bif x == H.next then some [] else H.grps.get x := by
  simp only [Heap.newApp, forceNat_eq, Tr.force_eq]
  show (if x = H.next then some _ else H.grps x) = _
  by_cases h : x = H.next
  · simp [h]
  · have h' : (x == H.next) = false := by simpa using h
    rw [if_neg h, h']; rfl
theorem newApp_next (z : Nat) (c : List Value) : (H.newApp z c).next = H.next + 1 := by simp only [Heap.newApp, forceNat_eq, Tr.force_eq]
theorem newApp_lo (z : Nat) (c : List Value) : (H.newApp z c).lo = H.lo := by simp only [Heap.newApp, forceNat_eq, Tr.force_eq]
theorem grow_eq {r g z : Nat} {cells new : List Value} {old : List Nat} (h : H.grps.get g = some old) : H.grow r cells g z new = some (H.grow1 r cells g z old new) := by
  simp only [Heap.grow, h, forceNat_eq, Tr.force_eq, Heap.grow1]
theorem grow1_get {r g z : Nat} {cells new : List Value} {old : List Nat} (x : Nat) : (H.grow1 r cells g z old new).objs.get x = bif x == H.next then some (.row new (some (g, z)) true) else bif x == r then some (.row cells (some (g, z)) false) else H.objs.get x := by
  show (if x = H.next then some _ else if x = r then some _ else H.objs x) = _
  by_cases h : x = H.next
  · simp [h]
  · rw [if_neg h, nbeq_ne h]
    by_cases h2 : x = r
    · simp [h2]
    · rw [if_neg h2, nbeq_ne h2]; rfl
theorem grow1_grps {r g z : Nat} {cells new : List Value} {old : List Nat} (x : Nat) : (H.grow1 r cells g z old new).grps.get x = bif x == g then some (r :: old) else H.grps.get x := by
  show (if x = g then some _ else H.grps x) = _
  by_cases h : x = g
  · simp [h]
  · rw [if_neg h, nbeq_ne h]; rfl
theorem grown_newApp {b : Nat} (hb : b ≤ H.next) (z : Nat) (c : List Value) : Grown b H (H.newApp z c) where
  lo := newApp_lo z c
  nxt := by rw [newApp_next]; omega
  below x hx := by rw [newApp_get, newApp_grps, nbeq_ne (show x ≠ H.next by omega)]; exact ⟨rfl, rfl⟩
  alone x cells t hx h := by rw [newApp_get, nbeq_ne (by omega)]; exact h
  cells x cells g t hx h := ⟨t, by rw [newApp_get, nbeq_ne (by omega)]; exact h⟩
theorem grown_grow1 {b r g z : Nat} {cells new : List Value} {old : List Nat} (hb : b ≤ H.next) (hr : b ≤ r) (hg : b ≤ g) (hrow : H.objs.get r = some (.row cells (some (g, z)) true)) : Grown b H (H.grow1 r cells g z old new) where
  lo := rfl
  nxt := Nat.le_succ _
  below x hx := by rw [grow1_get, grow1_grps, nbeq_ne (show x ≠ H.next by omega), nbeq_ne (show x ≠ r by omega), nbeq_ne (show x ≠ g by omega)]; exact ⟨rfl, rfl⟩
  alone x c t hx h := by
    have : x ≠ r := fun e => by rw [e, hrow] at h; simp at h
    rw [grow1_get, nbeq_ne (by omega), nbeq_ne this]; exact h
  cells x c g' t hx h := by
    rw [grow1_get, nbeq_ne (by omega)]
    by_cases e : x = r
    · rw [e, hrow] at h
      simp only [Option.some.injEq, AObj.row.injEq] at h
      obtain ⟨rfl, rfl, rfl⟩ := h
      exact ⟨false, by rw [nbeq_eq e]; rfl⟩
    · exact ⟨t, by rw [nbeq_ne e]; exact h⟩
theorem Grown.same {b : Nat} {H' H0 : Heap} (h : Grown b H H') (h0 : Same H0 H) (hb : H0.next ≤ b) : Same H0 H' :=
  ⟨h.lo.trans h0.lo, Nat.le_trans h0.nxt h.nxt, fun x hx => ((h.below x (by omega)).1).trans (h0.objs x hx), fun x hx => ((h.below x (by omega)).2).trans (h0.grps x hx)⟩
theorem append_own {b size bytes : Nat} {s : Value} {n k : Nat} {cs new : List Value} (ho : Own b size H s n cs) (hb : b ≤ H.next) (hlo : H.lo ≤ b) (hk : k ≠ 0) (hnew : new.length = k * size) (hcell : new.all isCell = true) (hsz : growOk size bytes (n + k) = true) :
    ∃ H', appendT size bytes H s k new = some (.slice (some ⟨H.next, 0, none⟩) (n + k) (n + k), H') ∧ Own b size H' (.slice (some ⟨H.next, 0, none⟩) (n + k) (n + k)) (n + k) (cs ++ new) ∧ Grown b H H' ∧ H'.next = H.next + 1 := by
  have hnb : Nat.ble (n + k) n = false := Bool.eq_false_iff.2 fun hh => by have := Nat.le_of_ble_eq_true hh; omega
  have hlen : (cs ++ new).length = (n + k) * size := by rw [List.length_append, ho.1, hnew, Nat.add_mul]
  rcases ho with ⟨hc, ⟨rfl, rfl⟩ | ⟨r, rfl, h1, h2, h3⟩⟩
  · have hc0 : cs = [] := List.eq_nil_of_length_eq_zero (by omega)
    subst hc0
    have : Nat.ble (0 + k) 0 = false := hnb
    refine ⟨H.newApp size new, by simp only [appendT, this, hsz, cond_false]; rfl, ⟨hlen, .inr ⟨H.next, rfl, hb, by rw [newApp_next]; omega, .inr ⟨H.next, [], ?_, hb, by rw [newApp_next]; omega, ?_⟩⟩⟩, grown_newApp hb .., newApp_next ..⟩
    · rw [newApp_get, nbeq_eq rfl]; rfl
    · rw [newApp_grps, nbeq_eq rfl]; rfl
  · have hcut : cut cs 0 (n * size) = some cs := by rw [cut_eq, if_pos (by omega), List.drop_zero, List.take_of_length_le (by omega)]
    rcases h3 with h3 | ⟨g, old, h3, h4, h5, h6⟩
    · refine ⟨H.newApp size (cs ++ new), by simp only [appendT, hnb, hsz, cond_false, h3, hcut, Option.bind_some]; rfl, ⟨hlen, .inr ⟨H.next, rfl, hb, by rw [newApp_next]; omega, .inr ⟨H.next, [], ?_, hb, by rw [newApp_next]; omega, ?_⟩⟩⟩, grown_newApp hb .., newApp_next ..⟩
      · rw [newApp_get, nbeq_eq rfl]; rfl
      · rw [newApp_grps, nbeq_eq rfl]; rfl
    · have e1 : Nat.beq (0 + n * size) cs.length = true := by rw [hc, Nat.zero_add]; exact Nat.beq_refl _
      have e2 : Nat.ble H.lo r = true := Nat.ble_eq_true_of_le (by omega)
      have e3 : Nat.beq size size = true := Nat.beq_refl _
      refine ⟨H.grow1 r cs g size old (cs ++ new), by simp only [appendT, hnb, hsz, cond_false, h3, e1, e2, e3, hcell, Bool.and_self, cond_true, hcut, Option.bind_some, grow_eq h6]; rfl, ⟨hlen, .inr ⟨H.next, rfl, hb, Nat.lt_succ_self _, .inr ⟨g, r :: old, ?_, h4, Nat.lt_succ_of_lt h5, ?_⟩⟩⟩, grown_grow1 hb h1 h4 h3, rfl⟩
      · rw [grow1_get, nbeq_eq rfl]; rfl
      · rw [grow1_grps, nbeq_eq rfl]; rfl
theorem Own.nil (b z : Nat) (H : Heap) : Own b z H (.slice none 0 0) 0 [] := ⟨by simp, .inl ⟨rfl, rfl⟩⟩
theorem Own.same {b z n : Nat} {v : Value} {cs : List Value} {H' : Heap} (h : Own b z H v n cs) (hs : Same H H') : Own b z H' v n cs := by
  rcases h with ⟨hc, h | ⟨r, h0, h1, h2, h3⟩⟩
  · exact ⟨hc, .inl h⟩
  · refine ⟨hc, .inr ⟨r, h0, h1, Nat.lt_of_lt_of_le h2 hs.nxt, ?_⟩⟩
    rcases h3 with h3 | ⟨g, old, h3, h4, h5, h6⟩
    · exact .inl (hs.keeps h2 h3)
    · exact .inr ⟨g, old, hs.keeps h2 h3, h4, Nat.lt_of_lt_of_le h5 hs.nxt, by rw [hs.grps g h5]; exact h6⟩
theorem Own.read {α : Type} {R : Heap → List Value → α → Prop} {b z n : Nat} {v : Value} {cs : List Value} {l : List α} (h : Own b z H v n cs) (hl : l.length = n) (hlen : l.length ≤ 9223372036854775807) (hR : ∀ i x, l[i]? = some x → ∃ part, cut cs (i * z) z = some part ∧ R H part x) : SL R z H v l := by
  subst hl
  rcases h with ⟨hc, ⟨rfl, h⟩ | ⟨r, rfl, h1, h2, h3⟩⟩
  · have : l = [] := List.eq_nil_of_length_eq_zero h
    subst this
    exact SL.nil R z 0
  · rcases h3 with h3 | ⟨g, old, h3, _⟩
    · exact SL.ofRow h2 h3 (Nat.le_refl _) hlen hR
    · exact SL.ofRow h2 h3 (Nat.le_refl _) hlen hR
theorem Grown.ext {b : Nat} {H' : Heap} (h : Grown b H H') : Ext H H' := ⟨h.nxt, h.cells⟩
def Elems {α : Type} (R : Heap → List Value → α → Prop) (z : Nat) (H : Heap) (cs : List Value) (l : List α) : Prop :=
  cs.length = l.length * z ∧ ∀ i x, l[i]? = some x → ∃ part, cut cs (i * z) z = some part ∧ R H part x
theorem Elems.nil {α : Type} (R : Heap → List Value → α → Prop) (z : Nat) (H : Heap) : Elems R z H [] [] := ⟨by simp, fun i x h => by simp at h⟩
theorem Elems.ext {α : Type} {R : Heap → List Value → α → Prop} (hR : Mono R) {z : Nat} {H' : Heap} {cs : List Value} {l : List α} (h : Elems R z H cs l) (hs : Ext H H') : Elems R z H' cs l :=
  ⟨h.1, fun i x hi => let ⟨part, h1, h2⟩ := h.2 i x hi; ⟨part, h1, hR _ _ _ _ hs h2⟩⟩
theorem Elems.snoc {α : Type} {R : Heap → List Value → α → Prop} {z : Nat} {cs part : List Value} {l : List α} {x : α} (h : Elems R z H cs l) (hp : part.length = z) (hx : R H part x) : Elems R z H (cs ++ part) (l ++ [x]) := by
  refine ⟨by simp [h.1, hp, Nat.add_mul], fun i y hi => ?_⟩
  by_cases hlt : i < l.length
  · rw [List.getElem?_append_left hlt] at hi
    obtain ⟨p, h1, h2⟩ := h.2 i y hi
    refine ⟨p, ?_, h2⟩
    rw [cut_eq] at h1 ⊢
    split at h1
    · rename_i hle
      rw [if_pos (by simp; omega), List.drop_append_of_le_length (by omega), List.take_append_of_le_length (by simp; omega)]
      exact h1
    · cases h1
  · have hi' : i = l.length := by
      have := (List.getElem?_eq_some_iff.1 hi).1
      simp at this; omega
    subst hi'
    simp at hi
    subst hi
    refine ⟨part, ?_, hx⟩
    rw [← h.1, cut_eq, if_pos (by simp [hp]), List.drop_left, List.take_of_length_le (by omega)]
theorem Elems.one {α : Type} {R : Heap → List Value → α → Prop} {z : Nat} {part : List Value} {x : α} (hp : part.length = z) (hx : R H part x) : Elems R z H part [x] := by
  have := (Elems.nil R z H).snoc hp hx
  simpa using this
theorem Own.slice {b z n : Nat} {v : Value} {cs : List Value} (h : Own b z H v n cs) : ∃ a l c, v = .slice a l c := by
  rcases h with ⟨_, ⟨rfl, _⟩ | ⟨r, rfl, _⟩⟩ <;> exact ⟨_, _, _, rfl⟩
theorem Own.reads {α : Type} {R : Heap → List Value → α → Prop} {b z n : Nat} {v : Value} {cs : List Value} {l : List α} (h : Own b z H v n cs) (hl : l.length = n) (hlen : l.length ≤ 9223372036854775807) (hR : Elems R z H cs l) : SL R z H v l := h.read hl hlen hR.2
theorem SL.made {α : Type} {R : Heap → List Value → α → Prop} {z r cap : Nat} {cells : List Value} {g : Option (Nat × Nat)} {t : Bool} {l : List α} (hR : Elems R z H cells l) (hr : r < H.next) (hrow : H.objs.get r = some (.row cells g t)) (hcap : l.length ≤ cap) (hlen : l.length ≤ 9223372036854775807) : SL R z H (.slice (some ⟨r, 0, none⟩) l.length cap) l :=
  SL.ofRow hr hrow hcap hlen hR.2
theorem SL.alone {α : Type} {R : Heap → List Value → α → Prop} {z r cap : Nat} {cells : List Value} {l : List α} (hR : Elems R z H cells l) (hr : r < H.next) (hrow : H.objs.get r = some (.row cells none true)) (hcap : l.length ≤ cap) (hlen : l.length ≤ 9223372036854775807) : SL R z H (.slice (some ⟨r, 0, none⟩) l.length cap) l :=
  SL.ofRow hr hrow hcap hlen hR.2
theorem Own.cell {b z n : Nat} {v : Value} {cs : List Value} (h : Own b z H v n cs) : isCell v = true := by
  rcases h with ⟨_, ⟨rfl, _⟩ | ⟨r, rfl, _⟩⟩ <;> rfl
structure SameBut (k : Nat) (H H' : Heap) : Prop where
  lo : H'.lo = H.lo
  nxt : H.next ≤ H'.next
  objs : ∀ x, x < H.next → x ≠ k → H'.objs.get x = H.objs.get x
  grps : ∀ x, x < H.next → H'.grps.get x = H.grps.get x
theorem Same.but {H' : Heap} (h : Same H H') (k : Nat) : SameBut k H H' := ⟨h.lo, h.nxt, fun x hx _ => h.objs x hx, h.grps⟩
theorem SameBut.same {k : Nat} {H0 H' : Heap} (h : SameBut k H H') (h0 : Same H0 H) (hk : H0.next ≤ k) : Same H0 H' :=
  ⟨h.lo.trans h0.lo, Nat.le_trans h0.nxt h.nxt, fun x hx => (h.objs x (Nat.lt_of_lt_of_le hx h0.nxt) (by omega)).trans (h0.objs x hx), fun x hx => (h.grps x (Nat.lt_of_lt_of_le hx h0.nxt)).trans (h0.grps x hx)⟩
theorem SameBut.trans {k : Nat} {H' H'' : Heap} (h : SameBut k H H') (h' : Same H' H'') : SameBut k H H'' :=
  ⟨h'.lo.trans h.lo, Nat.le_trans h.nxt h'.nxt, fun x hx hk => (h'.objs x (Nat.lt_of_lt_of_le hx h.nxt)).trans (h.objs x hx hk), fun x hx => (h'.grps x (Nat.lt_of_lt_of_le hx h.nxt)).trans (h.grps x hx)⟩
theorem SameBut.setRow {k : Nat} {H' : Heap} (h : SameBut k H H') (c : List Value) : SameBut k H (H'.setRow k c) :=
  ⟨h.lo, h.nxt, fun x hx hk => by rw [setRow_get, nbeq_ne hk]; exact h.objs x hx hk, h.grps⟩
theorem SameBut.keeps {k : Nat} {H' : Heap} (h : SameBut k H H') {r : Nat} {ob : AObj} (hr : r < H.next) (hk : r ≠ k) (ho : H.objs.get r = some ob) : H'.objs.get r = some ob := by rw [h.objs r hr hk, ho]
theorem Own.setRow {b z n x : Nat} {v : Value} {cs c : List Value} (h : Own b z H v n cs) (hx : x < b) : Own b z (H.setRow x c) v n cs := by
  rcases h with ⟨hc, h | ⟨r, h0, h1, h2, h3⟩⟩
  · exact ⟨hc, .inl h⟩
  · refine ⟨hc, .inr ⟨r, h0, h1, h2, ?_⟩⟩
    have e : (H.setRow x c).objs.get r = H.objs.get r := by rw [setRow_get, nbeq_ne (by omega)]; rfl
    rw [e]
    exact h3
end
end Go.AM

namespace Go.AM
attribute [local instance] fnMaps
section
variable {E : Env} {sz : Nat}
end
end Go.AM

namespace Go.AM
attribute [local instance] fnMaps
set_option linter.defProp false
section
variable {E : Env} {sz : Nat} {T : Tr Value} {H : Heap}
theorem andE_true (x : Bool) : (x == true) = x := by cases x <;> rfl
theorem andE_false (x : Bool) : (x == false) = !x := by cases x <;> rfl
end
theorem l_ct {α : Type} (a b : α) : (bif true then a else b) = a := Eq.trans rfl rfl
theorem l_cf {α : Type} (a b : α) : (bif false then a else b) = b := Eq.trans rfl rfl
theorem l_ctp (a b : Prop) : (bif true then a else b) = a := Eq.trans rfl rfl
theorem l_cfp (a b : Prop) : (bif false then a else b) = b := Eq.trans rfl rfl
theorem l_obs {α β : Type} (a : α) (f : α → Option β) : (some a).bind f = f a := Eq.trans rfl rfl
theorem l_obn {α β : Type} (f : α → Option β) : (none : Option α).bind f = none := Eq.trans rfl rfl
theorem l_oms {α β : Type} (a : α) (f : α → β) : (some a).map f = some (f a) := Eq.trans rfl rfl
theorem l_omn {α β : Type} (f : α → β) : (none : Option α).map f = none := Eq.trans rfl rfl
theorem l_na (n : Nat) : n + 0 = n := Eq.trans rfl rfl
theorem l_g0 {α : Type} (a : α) (l : List α) : (a :: l)[0]? = some a := Eq.trans rfl rfl
theorem l_gs {α : Type} (a : α) (i : Nat) (l : List α) : (a :: l)[i + 1]? = l[i]? := Eq.trans rfl rfl
theorem l_gn {α : Type} (i : Nat) : ([] : List α)[i]? = none := Eq.trans rfl rfl
theorem l_lc {α : Type} (a : α) (l : List α) : (a :: l).length = l.length + 1 := Eq.trans rfl rfl
theorem l_ln {α : Type} : ([] : List α).length = 0 := Eq.trans rfl rfl
theorem l_d0 {α : Type} (l : List α) : l.drop 0 = l := Eq.trans rfl rfl
theorem l_ds {α : Type} (a : α) (l : List α) (i : Nat) : (a :: l).drop (i + 1) = l.drop i := Eq.trans rfl rfl
theorem l_t0 {α : Type} (l : List α) : l.take 0 = [] := Eq.trans rfl rfl
theorem l_ts {α : Type} (a : α) (l : List α) (i : Nat) : (a :: l).take (i + 1) = a :: l.take i := Eq.trans rfl rfl
theorem l_na2 {α : Type} (l : List α) : [] ++ l = l := Eq.trans rfl rfl
theorem l_ca {α : Type} (a : α) (l m : List α) : a :: l ++ m = a :: (l ++ m) := Eq.trans rfl rfl
theorem l_alc {α : Type} (a : α) (l : List α) (f : α → Bool) : (a :: l).all f = (f a && l.all f) := Eq.trans rfl rfl
theorem l_aln {α : Type} (f : α → Bool) : ([] : List α).all f = true := Eq.trans rfl rfl
theorem l_nt : (!true) = false := Eq.trans rfl rfl
theorem l_nf : (!false) = true := Eq.trans rfl rfl
theorem l_at (b : Bool) : (true && b) = b := Eq.trans rfl rfl
theorem l_af (b : Bool) : (false && b) = false := Eq.trans rfl rfl
theorem l_ot (b : Bool) : (true || b) = true := Eq.trans rfl rfl
theorem l_of (b : Bool) : (false || b) = b := Eq.trans rfl rfl
theorem l_is {α : Type} (a : α) : (some a).isSome = true := Eq.trans rfl rfl
theorem l_in {α : Type} : (none : Option α).isSome = false := Eq.trans rfl rfl
theorem l_dt {h : Decidable True} : @decide True h = true := by cases h <;> first | rfl | contradiction
theorem l_df {h : Decidable False} : @decide False h = false := by cases h <;> first | rfl | contradiction
theorem l_za (n : Nat) : 0 + n = n := Nat.zero_add n
theorem l_ga {α : Type} (l : List α) (i : Nat) : l.toArray[i]? = l[i]? := by simp
theorem l_dn {α : Type} (i : Nat) : ([] : List α).drop i = [] := by simp
theorem l_tn {α : Type} (i : Nat) : ([] : List α).take i = [] := by simp
theorem l_an {α : Type} (l : List α) : l ++ [] = l := by simp
theorem l_ba (b : Bool) : (b && true) = b := by simp
theorem l_bf (b : Bool) : (b && false) = false := by simp
theorem l_bo (b : Bool) : (b || true) = true := by simp
theorem l_bp (b : Bool) : (b || false) = b := by simp
theorem l_nn (b : Bool) : (!!b) = b := by simp
theorem l_ns (n : Nat) : (n == n) = true := by simp
theorem l_bs (n : Bool) : (n == n) = true := by simp
def sh := (And.intro (And.intro (And.intro (And.intro (And.intro (And.intro @wp_skip @wp_label) (And.intro @wp_region @wp_draw)) (And.intro (And.intro @wp_seq_seq @wp_seq_region) (And.intro @wp_seq_cond (And.intro @wp_seq_block @wp_seq_loop)))) (And.intro (And.intro (And.intro @wp_seq_scope @wp_seq_exit) (And.intro @wp_seq_ret @wp_seq_skip)) (And.intro (And.intro @wp_seq_range @wp_seq_label) (And.intro @wp_cond (And.intro @wp_block @wp_scope))))) (And.intro (And.intro (And.intro (And.intro @wp_exit @wp_ret) (And.intro @wp_atLoop @wp_atRange)) (And.intro (And.intro @wpOps_nil @wpOps_cons) (And.intro @wpOps_guard (And.intro @wpDraw_nil @wpDraw_cons)))) (And.intro (And.intro (And.intro @wpDraw_keep @wpDraw_guard) (And.intro @putP_some @putP_none)) (And.intro (And.intro @seqP_normal @seqP_ret) (And.intro @seqP_exit (And.intro @exP_normal @exP_ret)))))) (And.intro (And.intro (And.intro (And.intro (And.intro @exP_exit @endP_normal) (And.intro @endP_ret @optP_some)) (And.intro (And.intro @optP_none @resP_some) (And.intro @resP_none (And.intro @boolP_true @boolP_false)))) (And.intro (And.intro (And.intro @asBoolP_bool @resP_bind) (And.intro @optP_bind @OP_move)) (And.intro (And.intro @OP_assign @OP_pick) (And.intro @OP_box (And.intro @OP_build @OP_load))))) (And.intro (And.intro (And.intro (And.intro @OP_store @OP_binOp) (And.intro @OP_unOp @OP_convert)) (And.intro (And.intro @OP_slice @OP_fieldAddr) (And.intro @OP_field (And.intro @OP_indexAddr @OP_index)))) (And.intro (And.intro (And.intro @OP_makeSlice @OP_extract) (And.intro @OP_makeFunc @OP_range)) (And.intro (And.intro @OP_next @OP_builtin) (And.intro @OP_call (And.intro @OP_buildSlice @OP_alloc')))))))
def sx := (And.intro (And.intro (And.intro (And.intro (And.intro (And.intro (And.intro @optP_some @optP_none) (And.intro @optP_bind @resP_bind)) (And.intro (And.intro @resP_some @resP_none) (And.intro @boolP_true @boolP_false))) (And.intro (And.intro (And.intro @asBoolP_bool @get_set) (And.intro @of_nil @of_1)) (And.intro (And.intro @of_2 @of_3) (And.intro @ev_tmp @ev_func)))) (And.intro (And.intro (And.intro (And.intro @ev_int @ev_bool) (And.intro @ev_string @ev_nilptr)) (And.intro (And.intro @ev_nilslice @ev_agg) (And.intro @evs_nil @evs_cons))) (And.intro (And.intro (And.intro @guardV_some @wantV_bool) (And.intro @wantV_undef @tup_get)) (And.intro (And.intro @results_nil @results_tmp) (And.intro @results_cell @pack_one))))) (And.intro (And.intro (And.intro (And.intro (And.intro @pack_nil @pack_two) (And.intro @pack_three @bin_add)) (And.intro (And.intro @bin_sub @bin_mul) (And.intro @bin_quo @bin_rem))) (And.intro (And.intro (And.intro @bin_and @bin_or) (And.intro @bin_xor @bin_andNot)) (And.intro (And.intro @bin_eql @bin_neq) (And.intro @bin_lss @bin_leq)))) (And.intro (And.intro (And.intro (And.intro @bin_gtr @bin_geq) (And.intro @bin_agg @bin_agg_eq)) (And.intro (And.intro @un_not @un_neg) (And.intro @bin_shl @bin_shr))) (And.intro (And.intro (And.intro @int_add @int_sub) (And.intro @int_mul @int_rem)) (And.intro (And.intro @int_quo @int_eql) (And.intro @int_neq (And.intro @int_lss @int_leq))))))) (And.intro (And.intro (And.intro (And.intro (And.intro (And.intro @int_gtr @int_geq) (And.intro @intR_some @newRow_next)) (And.intro (And.intro @newRow_lo @newRow_get) (And.intro @newRow_grps @setRow_get))) (And.intro (And.intro (And.intro @setRow_next @setRow_lo) (And.intro @setRow_grps @loadV_ptr)) (And.intro (And.intro @rowLoad_cell @rowLoad_agg) (And.intro @cellsV_agg @cellsV_int)))) (And.intro (And.intro (And.intro (And.intro @cellsV_bool @cellsV_slice) (And.intro @cellsV_ptr @storeV_ptr)) (And.intro (And.intro @write_eq @writeV_own) (And.intro @isCell_int @isCell_bool))) (And.intro (And.intro (And.intro @isCell_slice @isCell_ptr) (And.intro @isCell_str @isCell_ptr')) (And.intro (And.intro @rowCut_row @cellsOf_some) (And.intro @evParts_nil (And.intro @evParts_cons @fillV_nil)))))) (And.intro (And.intro (And.intro (And.intro (And.intro @fillV_cons @over_zero) (And.intro @over_succ @eqFields_nil)) (And.intro (And.intro @eqFields_cons @andO_some) (And.intro @eqI_eq @relo_self))) (And.intro (And.intro (And.intro @relo_relo @relo_next) (And.intro @relo_lo @relo_objs)) (And.intro (And.intro @relo_grps @newRow_relo) (And.intro @setRow_relo @apart_nil)))) (And.intro (And.intro (And.intro (And.intro @apart_cons @apV_ptr) (And.intro @apT_ptr @alone_row)) (And.intro (And.intro @apartFrom_nil @apartFrom_load) (And.intro @apartFrom_len @apartFrom_slice))) (And.intro (And.intro (And.intro @apS_slice @apS_ptr) (And.intro @apS_nil @map_infoIx_nil)) (And.intro (And.intro @map_infoIx_cons @apartOf_nil) (And.intro @apartOf_cons (And.intro @andE_true @andE_false))))))))
def sl := (And.intro (And.intro (And.intro (And.intro (And.intro @l_ct @l_cf) (And.intro @l_ctp (And.intro @l_cfp @l_obs))) (And.intro (And.intro @l_obn (And.intro @l_oms @l_omn)) (And.intro @l_na (And.intro @l_g0 @l_gs)))) (And.intro (And.intro (And.intro @l_gn (And.intro @l_lc @l_ln)) (And.intro @l_d0 (And.intro @l_ds @l_t0))) (And.intro (And.intro @l_ts (And.intro @l_na2 @l_ca)) (And.intro @l_alc (And.intro @l_aln @l_nt))))) (And.intro (And.intro (And.intro (And.intro @l_nf @l_at) (And.intro @l_af (And.intro @l_ot @l_of))) (And.intro (And.intro @l_is (And.intro @l_in @l_dt)) (And.intro @l_df (And.intro @l_za @l_ga)))) (And.intro (And.intro (And.intro @l_dn (And.intro @l_tn @l_an)) (And.intro @l_ba (And.intro @l_bf @l_bo))) (And.intro (And.intro @l_bp (And.intro @l_nn @l_ns)) (And.intro @l_bs (And.intro @true_and @and_true))))))
end Go.AM

namespace Go.AM
attribute [local instance] fnMaps
section
variable {H : Heap}
def fnv (g : Nat) : Value := .func (.func g) #[] #[]
theorem cutAll2 (a b : Value) : cut [a, b] 0 2 = some [a, b] := Eq.trans (cut_eq _ _ _) rfl
theorem cutAll3 (a b c : Value) : cut [a, b, c] 0 3 = some [a, b, c] := Eq.trans (cut_eq _ _ _) rfl
theorem same_box (H : Heap) (c d : List Value) : Same H ((H.newRow c).setRow H.next d) := (same_newRow _).setRow (Nat.le_refl _) _
theorem addO_get (H : Heap) (o : AObj) (r : Nat) : (H.add o).objs.get r = bif r == H.next then some o else H.objs.get r := by
  simp only [Heap.add, forceNat_eq, Tr.force_eq]
  show (if r = H.next then some _ else H.objs r) = _
  by_cases h : r = H.next
  · simp [h]
  · have h' : (r == H.next) = false := by simpa using h
    rw [if_neg h, h']; rfl
theorem setO_get (H : Heap) (l : Nat) (o : AObj) (x : Nat) : (H.setObj l o).objs.get x = bif x == l then some o else H.objs.get x := by
  simp only [Heap.setObj, Tr.force_eq]
  show (if x = l then some _ else H.objs x) = _
  by_cases h : x = l
  · simp [h]
  · have h' : (x == l) = false := by simpa using h
    rw [if_neg h, h']; rfl
theorem setO_next (H : Heap) (l : Nat) (o : AObj) : (H.setObj l o).next = H.next := by simp only [Heap.setObj, Tr.force_eq]
theorem setO_lo (H : Heap) (l : Nat) (o : AObj) : (H.setObj l o).lo = H.lo := by simp only [Heap.setObj, Tr.force_eq]
theorem setO_grps (H : Heap) (l : Nat) (o : AObj) : (H.setObj l o).grps = H.grps := by simp only [Heap.setObj, Tr.force_eq]
theorem same_add (H : Heap) (o : AObj) : Same H (H.add o) :=
  ⟨add_lo H o, by rw [add_next]; omega, fun x hx => by rw [addO_get, nbeq_ne (by omega)]; rfl, fun x _ => by rw [add_grps]⟩
theorem but_setO {H X : Heap} {l : Nat} (h : SameBut l H X) (o : AObj) : SameBut l H (X.setObj l o) :=
  ⟨by rw [setO_lo]; exact h.lo, by rw [setO_next]; exact h.nxt, fun x hx hk => by rw [setO_get, nbeq_ne hk]; exact h.objs x hx hk, fun x hx => by rw [setO_grps]; exact h.grps x hx⟩
theorem same_setO {H X : Heap} {l : Nat} (h : Same H X) (hl : H.next ≤ l) (o : AObj) : Same H (X.setObj l o) := (but_setO (h.but l) o).same (Same.refl H) hl
def OwnF (b z : Nat) (H : Heap) (v : Value) (n : Nat) (cs : List Value) (f : Option (Nat × Nat)) : Prop :=
  cs.length = n * z ∧ match f with
    | none => v = .slice none 0 0 ∧ n = 0
    | some (r, g) => v = .slice (some ⟨r, 0, none⟩) n n ∧ b ≤ r ∧ r < H.next ∧ b ≤ g ∧ g < H.next ∧ ∃ old, H.objs.get r = some (.row cs (some (g, z)) true) ∧ H.grps.get g = some old
def FDis : Option (Nat × Nat) → Option (Nat × Nat) → Prop
  | some (r, g), some (r2, g2) => r ≠ r2 ∧ g ≠ g2
  | _, _ => True
theorem FDis.symm {f f2 : Option (Nat × Nat)} (h : FDis f f2) : FDis f2 f := by
  match f, f2, h with
  | some (r, g), some (r2, g2), h => exact ⟨fun e => h.1 e.symm, fun e => h.2 e.symm⟩
  | none, some _, _ => trivial
  | some _, none, _ => trivial
  | none, none, _ => trivial
theorem OwnF.own {b z n : Nat} {v : Value} {cs : List Value} {f : Option (Nat × Nat)} (h : OwnF b z H v n cs f) : Own b z H v n cs := by
  obtain ⟨h0, h⟩ := h
  match f, h with
  | none, h => exact ⟨h0, .inl h⟩
  | some (r, g), ⟨h1, h2, h3, h4, h5, old, h6, h7⟩ => exact ⟨h0, .inr ⟨r, h1, h2, h3, .inr ⟨g, old, h6, h4, h5, h7⟩⟩⟩
theorem OwnF.nil (b z : Nat) (H : Heap) : OwnF b z H (.slice none 0 0) 0 [] none := ⟨by simp, rfl, rfl⟩
theorem OwnF.keep {b z n : Nat} {v : Value} {cs : List Value} {f : Option (Nat × Nat)} {H' : Heap} (h : OwnF b z H v n cs f) (hn : H.next ≤ H'.next) (ho : ∀ r g, f = some (r, g) → H'.objs.get r = H.objs.get r ∧ H'.grps.get g = H.grps.get g) : OwnF b z H' v n cs f := by
  obtain ⟨h0, h⟩ := h
  match f, h, ho with
  | none, h, _ => exact ⟨h0, h⟩
  | some (r, g), ⟨h1, h2, h3, h4, h5, old, h6, h7⟩, ho =>
    obtain ⟨e1, e2⟩ := ho r g rfl
    exact ⟨h0, h1, h2, by omega, h4, by omega, old, by rw [e1]; exact h6, by rw [e2]; exact h7⟩
theorem OwnF.below {b z n : Nat} {v : Value} {cs : List Value} {r g : Nat} (h : OwnF b z H v n cs (some (r, g))) : r < H.next ∧ g < H.next := by
  obtain ⟨_, h1, h2, h3, h4, h5, _⟩ := h
  exact ⟨h3, h5⟩
theorem OwnF.same {b z n : Nat} {v : Value} {cs : List Value} {f : Option (Nat × Nat)} {H' : Heap} (h : OwnF b z H v n cs f) (hs : Same H H') : OwnF b z H' v n cs f :=
  h.keep hs.nxt fun r g e => by subst e; exact ⟨hs.objs r h.below.1, hs.grps g h.below.2⟩
theorem append_f {b size bytes : Nat} {s : Value} {n k : Nat} {cs new : List Value} {f : Option (Nat × Nat)} (ho : OwnF b size H s n cs f) (hb : b ≤ H.next) (hlo : H.lo ≤ b) (hk : k ≠ 0) (hnew : new.length = k * size) (hcell : new.all isCell = true) (hsz : growOk size bytes (n + k) = true) :
    ∃ H' f', appendT size bytes H s k new = some (.slice (some ⟨H.next, 0, none⟩) (n + k) (n + k), H') ∧ OwnF b size H' (.slice (some ⟨H.next, 0, none⟩) (n + k) (n + k)) (n + k) (cs ++ new) f' ∧ Grown b H H' ∧ H'.next = H.next + 1 ∧
      ∀ z2 v2 n2 cs2 f2, OwnF b z2 H v2 n2 cs2 f2 → FDis f f2 → OwnF b z2 H' v2 n2 cs2 f2 ∧ FDis f' f2 := by
  have hnb : Nat.ble (n + k) n = false := Bool.eq_false_iff.2 fun hh => by have := Nat.le_of_ble_eq_true hh; omega
  obtain ⟨hc, ho⟩ := ho
  have hlen : (cs ++ new).length = (n + k) * size := by rw [List.length_append, hc, hnew, Nat.add_mul]
  match f, ho with
  | none, ⟨h1, h2⟩ =>
    subst h1 h2
    have hc0 : cs = [] := List.eq_nil_of_length_eq_zero (by omega)
    subst hc0
    have : Nat.ble (0 + k) 0 = false := hnb
    refine ⟨H.newApp size new, some (H.next, H.next), by simp only [appendT, this, hsz, cond_false]; rfl, ⟨hlen, rfl, hb, by rw [newApp_next]; omega, hb, by rw [newApp_next]; omega, [], ?_, ?_⟩, grown_newApp hb .., newApp_next .., ?_⟩
    · rw [newApp_get, nbeq_eq rfl]; rfl
    · rw [newApp_grps, nbeq_eq rfl]; rfl
    · intro z2 v2 n2 cs2 f2 h2 _
      refine ⟨h2.keep (by rw [newApp_next]; omega) fun r g e => ?_, ?_⟩
      · subst e
        have := h2.below
        exact ⟨by rw [newApp_get, nbeq_ne (by omega)]; rfl, by rw [newApp_grps, nbeq_ne (by omega)]; rfl⟩
      · match f2, h2 with
        | none, _ => trivial
        | some (r, g), h2 => have := h2.below; exact ⟨by omega, by omega⟩
  | some (r, g), ⟨h0, h1, h2, h4, h5, old, h3, h6⟩ =>
    subst h0
    have hcut : cut cs 0 (n * size) = some cs := by rw [cut_eq, if_pos (by omega), List.drop_zero, List.take_of_length_le (by omega)]
    have e1 : Nat.beq (0 + n * size) cs.length = true := by rw [hc, Nat.zero_add]; exact Nat.beq_refl _
    have e2 : Nat.ble H.lo r = true := Nat.ble_eq_true_of_le (by omega)
    have e3 : Nat.beq size size = true := Nat.beq_refl _
    refine ⟨H.grow1 r cs g size old (cs ++ new), some (H.next, g), by simp only [appendT, hnb, hsz, cond_false, h3, e1, e2, e3, hcell, Bool.and_self, cond_true, hcut, Option.bind_some, grow_eq h6]; rfl, ⟨hlen, rfl, hb, Nat.lt_succ_self _, h4, Nat.lt_succ_of_lt h5, r :: old, ?_, ?_⟩, grown_grow1 hb h1 h4 h3, rfl, ?_⟩
    · rw [grow1_get, nbeq_eq rfl]; rfl
    · rw [grow1_grps, nbeq_eq rfl]; rfl
    · intro z2 v2 n2 cs2 f2 hf hd
      refine ⟨hf.keep (Nat.le_succ _) fun r2 g2 e => ?_, ?_⟩
      · subst e
        have := hf.below
        obtain ⟨d1, d2⟩ := hd
        exact ⟨by rw [grow1_get, nbeq_ne (by omega), nbeq_ne (by omega)]; rfl, by rw [grow1_grps, nbeq_ne (by omega)]; rfl⟩
      · match f2, hf, hd with
        | none, _, _ => trivial
        | some (r2, g2), hf, hd => have := hf.below; exact ⟨by omega, hd.2⟩
theorem Elems.append {α : Type} {R : Heap → List Value → α → Prop} {z : Nat} {cs ds : List Value} {l m : List α} (h : Elems R z H cs l) (h' : Elems R z H ds m) : Elems R z H (cs ++ ds) (l ++ m) := by
  refine ⟨by simp [h.1, h'.1, Nat.add_mul], fun i y hi => ?_⟩
  by_cases hlt : i < l.length
  · rw [List.getElem?_append_left hlt] at hi
    obtain ⟨p, h1, h2⟩ := h.2 i y hi
    refine ⟨p, ?_, h2⟩
    rw [cut_eq] at h1 ⊢
    split at h1
    · rename_i hle
      rw [if_pos (by simp; omega), List.drop_append_of_le_length (by omega), List.take_append_of_le_length (by simp; omega)]
      exact h1
    · cases h1
  · rw [List.getElem?_append_right (by omega)] at hi
    obtain ⟨p, h1, h2⟩ := h'.2 _ y hi
    refine ⟨p, ?_, h2⟩
    have hle : l.length ≤ i := by omega
    have e : i * z = cs.length + (i - l.length) * z := by
      rw [h.1, ← Nat.add_mul]; congr 1; omega
    rw [cut_eq] at h1 ⊢
    split at h1
    · rename_i hl2
      rw [e, if_pos (by simp; omega), ← List.drop_drop, List.drop_left]
      exact h1
    · cases h1
theorem cutAll11 (a b c d e f g h i j k : Value) : cut [a, b, c, d, e, f, g, h, i, j, k] 0 11 = some [a, b, c, d, e, f, g, h, i, j, k] := Eq.trans (cut_eq _ _ _) rfl
theorem grown_same {b : Nat} {H H' : Heap} (h : Same H H') (hb : b ≤ H.next) : Grown b H H' :=
  ⟨h.lo, h.nxt, fun x hx => ⟨h.objs x (by omega), h.grps x (by omega)⟩, fun x c t hx ho => h.keeps hx ho, fun x c g t hx ho => ⟨t, h.keeps hx ho⟩⟩
theorem Grown.trans {b : Nat} {H H' H'' : Heap} (h : Grown b H H') (h' : Grown b H' H'') : Grown b H H'' :=
  ⟨h'.lo.trans h.lo, Nat.le_trans h.nxt h'.nxt, fun x hx => ⟨((h'.below x hx).1).trans (h.below x hx).1, ((h'.below x hx).2).trans (h.below x hx).2⟩,
   fun x c t hx ho => h'.alone x c t (Nat.lt_of_lt_of_le hx h.nxt) (h.alone x c t hx ho),
   fun x c g t hx ho => let ⟨t', h1⟩ := h.cells x c g t hx ho; h'.cells x c g t' (Nat.lt_of_lt_of_le hx h.nxt) h1⟩
theorem OwnF.reading {b z n : Nat} {H : Heap} {v : Value} {cs : List Value} {f : Option (Nat × Nat)} (h : OwnF b z H v n cs f) : ∃ a, v = .slice a n n ∧ ∀ H', Ext H H' → cellsOf H' (n * z) (.slice a n n) = some cs := by
  obtain ⟨h0, h⟩ := h
  match f, h with
  | none, ⟨h1, h2⟩ =>
    subst h2
    have : cs = [] := List.eq_nil_of_length_eq_zero (by omega)
    subst this
    exact ⟨none, h1, fun H' _ => by rw [cellsOf_none, if_pos (by omega)]⟩
  | some (r, g), ⟨h1, h2, h3, h4, h5, old, h6, h7⟩ =>
    refine ⟨_, h1, fun H' hx => ?_⟩
    obtain ⟨t', h8⟩ := hx.rows _ _ _ _ h3 h6
    rw [cellsOf_some, h8, Option.bind_some, rowCut_row, cut_eq, if_pos (by omega), List.drop_zero, List.take_of_length_le (by omega)]
structure Down (b : Nat) (H H' : Heap) : Prop where
  lo : H'.lo = H.lo
  nxt : H.next ≤ H'.next
  below : ∀ x, x < b → H'.objs.get x = H.objs.get x ∧ H'.grps.get x = H.grps.get x
theorem Down.refl (b : Nat) (H : Heap) : Down b H H := ⟨rfl, Nat.le_refl _, fun _ _ => ⟨rfl, rfl⟩⟩
theorem Down.trans {b : Nat} {H' H'' : Heap} (h : Down b H H') (h' : Down b H' H'') : Down b H H'' :=
  ⟨h'.lo.trans h.lo, Nat.le_trans h.nxt h'.nxt, fun x hx => ⟨((h'.below x hx).1).trans (h.below x hx).1, ((h'.below x hx).2).trans (h.below x hx).2⟩⟩
theorem Down.same {b : Nat} {H' H0 : Heap} (h : Down b H H') (h0 : Same H0 H) (hb : H0.next ≤ b) : Same H0 H' :=
  ⟨h.lo.trans h0.lo, Nat.le_trans h0.nxt h.nxt, fun x hx => ((h.below x (by omega)).1).trans (h0.objs x hx), fun x hx => ((h.below x (by omega)).2).trans (h0.grps x hx)⟩
theorem Grown.low {b : Nat} {H' : Heap} (h : Grown b H H') : Down b H H' := ⟨h.lo, h.nxt, h.below⟩
def OwnG (b z : Nat) (H : Heap) (v : Value) (n : Nat) (cs : List Value) : Prop :=
  cs.length = n * z ∧ ∃ r g old, v = .slice (some ⟨r, 0, none⟩) n n ∧ b ≤ r ∧ r < H.next ∧ H.objs.get r = some (.row cs (some (g, z)) true) ∧ b ≤ g ∧ g < H.next ∧ H.grps.get g = some old ∧ ∀ x ∈ old, b ≤ x ∧ x < H.next ∧ x ≠ r
theorem OwnG.own {b z n : Nat} {v : Value} {cs : List Value} (h : OwnG b z H v n cs) : Own b z H v n cs := by
  obtain ⟨h0, r, g, old, h1, h2, h3, h4, h5, h6, h7, _⟩ := h
  exact ⟨h0, .inr ⟨r, h1, h2, h3, .inr ⟨g, old, h4, h5, h6, h7⟩⟩⟩
theorem OwnG.setRow {b z n x : Nat} {v : Value} {cs c : List Value} (h : OwnG b z H v n cs) (hx : x < b) : OwnG b z (H.setRow x c) v n cs := by
  obtain ⟨h0, r, g, old, h1, h2, h3, h4, h5, h6, h7, h8⟩ := h
  exact ⟨h0, r, g, old, h1, h2, h3, by rw [setRow_get, nbeq_ne (by omega)]; exact h4, h5, h6, h7, h8⟩
theorem over_len (new : List Value) : ∀ (o : Nat) (l : List Value), o + new.length ≤ l.length → (over new o l).length = l.length
  | 0, l, h => by rw [over_zero]; simp; omega
  | o + 1, [], h => by simp at h
  | o + 1, x :: l, h => by rw [over_succ, List.length_cons, List.length_cons, over_len new o l (by simp at h; omega)]
theorem over_drop (new : List Value) : ∀ (o : Nat) (l : List Value), o + new.length ≤ l.length → over new o l = l.take o ++ new ++ l.drop (o + new.length)
  | 0, l, h => by rw [over_zero, List.take_zero, List.nil_append, Nat.zero_add]
  | o + 1, [], h => by simp at h
  | o + 1, x :: l, h => by rw [over_succ, over_drop new o l (by simp at h; omega), List.take_succ_cons, show o + 1 + new.length = (o + new.length) + 1 by omega, List.drop_succ_cons]; rfl
theorem Elems.set {α : Type} {R : Heap → List Value → α → Prop} {z k : Nat} {cs part : List Value} {l : List α} {x : α} (h : Elems R z H cs l) (hp : part.length = z) (hx : R H part x) (hk : k < l.length) : Elems R z H (over part (k * z) cs) (l.set k x) := by
  have hin : k * z + part.length ≤ cs.length := by
    rw [h.1, hp]
    have := Nat.mul_le_mul_right z (show k + 1 ≤ l.length by omega)
    rw [Nat.add_mul, Nat.one_mul] at this
    exact this
  refine ⟨by rw [over_len _ _ _ hin, h.1, List.length_set], fun i y hi => ?_⟩
  rw [over_drop _ _ _ hin]
  by_cases e : i = k
  · subst e
    rw [List.getElem?_set_self (by omega)] at hi
    simp only [Option.some.injEq] at hi
    subst hi
    refine ⟨part, ?_, hx⟩
    rw [cut_eq, if_pos (by simp; omega), List.append_assoc, List.drop_append_of_le_length (by simp; omega)]
    have e1 : (cs.take (i * z)).drop (i * z) = [] := List.drop_eq_nil_of_le (by simp; omega)
    rw [e1, List.nil_append, List.take_append_of_le_length (by omega), List.take_of_length_le (by omega)]
  · rw [List.getElem?_set_ne (fun hh => e hh.symm)] at hi
    obtain ⟨p, h1, h2⟩ := h.2 i y hi
    refine ⟨p, ?_, h2⟩
    obtain ⟨h3, h4, h5⟩ := cut_len h1
    rw [← over_drop _ _ _ hin, cut_eq, over_len _ _ _ hin, if_pos h4, h5, over_drop _ _ _ hin]
    congr 1
    rcases Nat.lt_or_gt_of_ne e with hlt | hgt
    · have hle : i * z + z ≤ k * z := by
        have := Nat.mul_le_mul_right z (show i + 1 ≤ k by omega)
        rw [Nat.add_mul, Nat.one_mul] at this
        exact this
      rw [List.append_assoc, List.drop_append_of_le_length (by simp; omega), List.take_append_of_le_length (by simp; omega), List.drop_take, List.take_take, Nat.min_eq_left (by omega)]
    · have hle : k * z + part.length ≤ i * z := by
        have := Nat.mul_le_mul_right z (show k + 1 ≤ i by omega)
        rw [Nat.add_mul, Nat.one_mul] at this
        omega
      have e1 : (cs.take (k * z) ++ part).length = k * z + part.length := by simp; omega
      rw [List.drop_append, List.drop_eq_nil_of_le (by omega), List.nil_append, List.drop_drop, e1, show k * z + part.length + (i * z - (k * z + part.length)) = i * z by omega]
def Rowed (H : Heap) (v : Value) : Prop := ∀ a l c, v = .slice a l c → a = none ∨ ∃ r cells g t, a = some ⟨r, 0, none⟩ ∧ r < H.next ∧ H.objs.get r = some (.row cells g t)
theorem Rowed.same {H' : Heap} {v : Value} (h : Rowed H v) (hs : Same H H') : Rowed H' v := by
  intro a l c e
  rcases h a l c e with h | ⟨r, cells, g, t, h1, h2, h3⟩
  · exact .inl h
  · exact .inr ⟨r, cells, g, t, h1, Nat.lt_of_lt_of_le h2 hs.nxt, hs.keeps h2 h3⟩
theorem cut_sub {cells : List Value} {m o z : Nat} (h : o + z ≤ m) (hm : m ≤ cells.length) : cut (cells.take m) o z = cut cells o z := by
  rw [cut_eq, cut_eq, if_pos (by simp; omega), if_pos (by omega), List.drop_take, List.take_take, Nat.min_eq_left (by omega)]
theorem SL.reading {α : Type} {R : Heap → List Value → α → Prop} {z : Nat} {v : Value} {l : List α} (h : SL R z H v l) (hr : Rowed H v) : ∃ a c cs, v = .slice a l.length c ∧ cellsOf H (l.length * z) (.slice a l.length c) = some cs ∧ Elems R z H cs l := by
  obtain ⟨a, c, rfl, hlen, h⟩ := h
  refine ⟨a, c, ?_⟩
  match l, h with
  | [], h =>
    refine ⟨[], rfl, ?_, Elems.nil _ _ _⟩
    rw [List.length_nil, Nat.zero_mul]
    rcases hr a _ c rfl with rfl | ⟨r, cells, g, t, rfl, h2, h3⟩
    · rw [cellsOf_none, if_pos rfl]
    · rw [cellsOf_some, h3, Option.bind_some, rowCut_row, cut_eq, if_pos (by omega), List.take_zero]
  | x :: l, h =>
    obtain ⟨r, o, cells, g, t, part, rfl, h2, h3, _⟩ := h 0 x rfl
    have key : ∀ i y, (x :: l)[i]? = some y → ∃ part, cut cells (o + i * z) z = some part ∧ R H part y := by
      intro i y hi
      obtain ⟨r', o', cells', g', t', part', e, h4, h5, h6, h7⟩ := h i y hi
      simp only [Option.some.injEq, Addr.mk.injEq, and_true] at e
      obtain ⟨rfl, rfl⟩ := e
      rw [h3] at h5
      simp only [Option.some.injEq, AObj.row.injEq] at h5
      obtain ⟨rfl, _, _⟩ := h5
      exact ⟨part', h6, h7⟩
    have hin : o + (x :: l).length * z ≤ cells.length := by
      obtain ⟨part, h4, _⟩ := key l.length _ (List.getElem?_eq_getElem (by simp))
      obtain ⟨_, h5, _⟩ := cut_len h4
      rw [List.length_cons, Nat.add_mul, Nat.one_mul]
      omega
    refine ⟨(cells.drop o).take ((x :: l).length * z), rfl, ?_, ⟨?_, fun i y hi => ?_⟩⟩
    · rw [cellsOf_some, h3, Option.bind_some, rowCut_row, cut_eq, if_pos hin]
    · simp only [List.length_take, List.length_drop]; omega
    · obtain ⟨part, h4, h5⟩ := key i y hi
      refine ⟨part, ?_, h5⟩
      have hi' := (List.getElem?_eq_some_iff.1 hi).1
      have := Nat.mul_le_mul_right z (show i + 1 ≤ (x :: l).length by omega)
      rw [Nat.add_mul, Nat.one_mul] at this
      rw [cut_sub this (by simp only [List.length_drop]; omega), cut_eq, if_pos (by simp only [List.length_drop]; omega), List.drop_drop]
      rw [cut_eq, if_pos (by omega)] at h4
      exact h4
theorem two (p q : Prop) [Decidable p] [Decidable q] : (decide p = true ∧ decide q = true) ∨ decide p = false ∨ (decide p = true ∧ decide q = false) := by
  by_cases hp : p <;> by_cases hq : q <;> simp [hp, hq]
theorem writeV_grp {H : Heap} (r o : Nat) (new cs : List Value) (g : Nat × Nat) : writeV H r o new (some (.row cs (some g) true)) = H.writeG r o new := Eq.trans rfl rfl
def Duo {α β : Type} (R : Heap → List Value → α → Prop) (S : Heap → List Value → β → Prop) (z y b : Nat) (H : Heap) (v w : Value) (L : List α) (M : List β) : Prop :=
  ∃ c d f e, (OwnF b z H v L.length c f ∧ Elems R z H c L) ∧ (OwnF b y H w M.length d e ∧ Elems S y H d M) ∧ FDis f e
section
variable {α β : Type} {R : Heap → List Value → α → Prop} {S : Heap → List Value → β → Prop} {z y b : Nat} {v w : Value} {L : List α} {M : List β}
theorem Duo.nil (b : Nat) (H : Heap) : Duo R S z y b H (.slice none 0 0) (.slice none 0 0) [] [] := ⟨[], [], none, none, ⟨OwnF.nil _ _ _, Elems.nil _ _ _⟩, ⟨OwnF.nil _ _ _, Elems.nil _ _ _⟩, trivial⟩
theorem Duo.same {H' : Heap} (hR : Mono R) (hS : Mono S) (h : Duo R S z y b H v w L M) (hs : Same H H') : Duo R S z y b H' v w L M := by
  obtain ⟨c, d, f, e, ⟨a1, a2⟩, ⟨a3, a4⟩, h3⟩ := h
  exact ⟨c, d, f, e, ⟨a1.same hs, a2.ext hR hs.ext⟩, ⟨a3.same hs, a4.ext hS hs.ext⟩, h3⟩
theorem Duo.app {part : List Value} {x : α} {bytes : Nat} (hR : Mono R) (hS : Mono S) (h : Duo R S z y b H v w L M) (hp : part.length = z) (hx : R H part x) (hc : part.all isCell = true) (hb : b ≤ H.next) (hlo : H.lo ≤ b) (hsz : growOk z bytes (L.length + 1) = true) :
    ∃ v' H4, appendT z bytes (H.newRow part) v 1 part = some (v', H4) ∧ Duo R S z y b H4 v' w (L ++ [x]) M ∧ Grown b H H4 := by
  obtain ⟨c, d, f, e, ⟨a1, a2⟩, ⟨a3, a4⟩, h3⟩ := h
  have sc : Same H (H.newRow part) := same_newRow _
  obtain ⟨H4, f', hap, ho4, hg4, _, hfr⟩ := append_f (bytes := bytes) (k := 1) (new := part) (a1.same sc) (by rw [newRow_next]; omega) (by rw [newRow_lo]; exact hlo) (by omega) (by rw [hp, Nat.one_mul]) hc hsz
  obtain ⟨b3, e1⟩ := hfr _ _ _ _ _ (a3.same sc) h3
  have hx2 := sc.ext.trans hg4.ext
  refine ⟨_, _, hap, ⟨_, d, f', e, ⟨?_, (a2.ext hR hx2).snoc hp (hR _ _ _ _ hx2 hx)⟩, ⟨b3, a4.ext hS hx2⟩, e1⟩, (grown_same sc hb).trans hg4⟩
  rw [List.length_append]
  exact ho4
theorem Duo.first (h : Duo R S z y b H v w L M) (hl : L.length ≤ 9223372036854775807) : SL R z H v L := by
  obtain ⟨c, d, f, e, ⟨a1, a2⟩, _⟩ := h
  exact a1.own.reads rfl hl a2
end
theorem bin_sl {E : Env} (t : TypeId) (x y : Operand) (a a' : Option Addr) (l c l' c' : Nat) : binV E .eql t x y (.slice a l c) (.slice a' l' c') = (eqV E (99 + 1) t (.slice a l c) (.slice a' l' c')).bind fun r => some (.bool r) := Eq.trans rfl rfl
theorem bin_sl_ne {E : Env} (t : TypeId) (x y : Operand) (a a' : Option Addr) (l c l' c' : Nat) : binV E .neq t x y (.slice a l c) (.slice a' l' c') = (eqV E (99 + 1) t (.slice a l c) (.slice a' l' c')).bind fun r => some (.bool (!r)) := Eq.trans rfl rfl
theorem bin_bl {E : Env} (t : TypeId) (x y : Operand) (a b : Bool) : binV E .eql t x y (.bool a) (.bool b) = (eqV E (99 + 1) t (.bool a) (.bool b)).bind fun r => some (.bool r) := Eq.trans rfl rfl
theorem bin_bl_ne {E : Env} (t : TypeId) (x y : Operand) (a b : Bool) : binV E .neq t x y (.bool a) (.bool b) = (eqV E (99 + 1) t (.bool a) (.bool b)).bind fun r => some (.bool (!r)) := Eq.trans rfl rfl
theorem of_4 (a b c d : Value) : Tr.of [a, b, c, d] = (((Tr.nil.set 0 a).set 1 b).set 2 c).set 3 d := Eq.trans rfl rfl
theorem of_5 (a b c d e : Value) : Tr.of [a, b, c, d, e] = ((((Tr.nil.set 0 a).set 1 b).set 2 c).set 3 d).set 4 e := Eq.trans rfl rfl
end
end Go.AM

namespace Go.AM
attribute [local instance] fnMaps
theorem boolP_dec {p : Prop} [Decidable p] {P R : Tok → Prop} (h1 : p → P .go) (h2 : ¬p → R .go) : boolP (decide p) P R := ⟨fun h => h1 (of_decide_eq_true h), fun h => h2 (of_decide_eq_false h)⟩
theorem boolP_not {c : Bool} {P R : Tok → Prop} (h : boolP c R P) : boolP (!c) P R := by
  cases c
  · exact ⟨fun _ => h.2 rfl, fun e => by cases e⟩
  · exact ⟨fun e => (by cases e), fun _ => h.1 rfl⟩
theorem boolP_b {c : Bool} {P R : Tok → Prop} (h1 : c = true → P .go) (h2 : c = false → R .go) : boolP c P R := ⟨h1, h2⟩
structure Ko (H H' : Heap) : Prop where
  nxt : H.next ≤ H'.next
  objs : ∀ x, x < H.next → H'.objs.get x = H.objs.get x
  grps : ∀ x, x < H.next → H'.grps.get x = H.grps.get x
section
variable {H0 H H' : Heap}
theorem Ko.refl (H : Heap) : Ko H H := ⟨Nat.le_refl _, fun _ _ => rfl, fun _ _ => rfl⟩
theorem Same.ko (h : Same H H') : Ko H H' := ⟨h.nxt, h.objs, h.grps⟩
theorem Ko.same (h : Ko H H') (hl : H'.lo = H.lo) : Same H H' := ⟨hl, h.nxt, h.objs, h.grps⟩
theorem Ko.trans (h : Ko H0 H) (h' : Ko H H') : Ko H0 H' :=
  ⟨Nat.le_trans h.nxt h'.nxt, fun x hx => (h'.objs x (Nat.lt_of_lt_of_le hx h.nxt)).trans (h.objs x hx), fun x hx => (h'.grps x (Nat.lt_of_lt_of_le hx h.nxt)).trans (h.grps x hx)⟩
theorem Ko.call (h : Ko H0 H) (h' : Same H H') : Ko H0 H' := h.trans h'.ko
theorem Ko.newRow (h : Ko H0 H) (c : List Value) : Ko H0 (H.newRow c) := h.call (same_newRow c)
theorem Ko.relo (h : Ko H0 H) (n : Nat) : Ko H0 (H.relo n) := ⟨h.nxt, h.objs, h.grps⟩
theorem Ko.setRow (h : Ko H0 H) {r : Nat} (hr : H0.next ≤ r) (c : List Value) : Ko H0 (H.setRow r c) :=
  ⟨h.nxt, fun x hx => by rw [setRow_get, nbeq_ne (by omega)]; exact h.objs x hx, h.grps⟩
theorem Ko.keeps (h : Ko H H') {r : Nat} {ob : AObj} (hr : r < H.next) (ho : H.objs.get r = some ob) : H'.objs.get r = some ob := by rw [h.objs r hr, ho]
theorem Ko.ext (h : Ko H H') : Ext H H' := ⟨h.nxt, fun _ _ _ t hx ho => ⟨t, h.keeps hx ho⟩⟩
end
theorem call_ko {E : Env} {f : Value} {args : List Value} {H0 H1 : Heap} {K : Value → Heap → Prop} {v : Value} (hk : Ko H0 H1) (hc : CallA E f args H1 fun r H' => r = v ∧ Same H1 H')
    (k : ∀ H2, Ko H0 H2 → H2.lo = H1.lo → H1.next ≤ H2.next → (∀ x, x < H1.next → H2.objs.get x = H1.objs.get x) → (∀ x, x < H1.next → H2.grps.get x = H1.grps.get x) → K v H2) : CallA E f args H1 K :=
  hc.mono fun _ H2 ⟨e, s⟩ => e ▸ k H2 (hk.call s) s.lo s.nxt s.objs s.grps
theorem wps_named2 {E : Env} {sz : Nat} {c : Code} {T : Tr Value} {mk : List Nat} {ro : Option Nat} {H : Heap} {Q : Ex → Tr Value → List Nat → Heap → Prop} (h : ∀ T1 H1, T1 = T → H1 = H → WPS E sz c T1 mk ro H1 Q) : WPS E sz c T mk ro H Q := h T H rfl rfl
theorem wp_loopN {E : Env} {sz : Nat} {c : Code} (hn : headNext c = none) {T : Tr Value} {mk : List Nat} {ro : Option Nat} {H : Heap} {Q : Ex → Tr Value → List Nat → Heap → Prop} (I : Nat → Tr Value → Heap → Prop) (h0 : ∃ n0, I n0 T H)
    (step : ∀ n T H, I n T H → ∀ Qs : Tok → Ex → Tr Value → List Nat → Heap → Prop, Hid (∀ T' H' m, m < n → I m T' H' → Qs .go .normal T' mk H') → Hid (∀ T' mk' H', Q .ret T' mk' H' → Qs .go .ret T' mk' H') → Hid (∀ i T' mk' H', Q (.exit i) T' mk' H' → Qs .go (.exit i) T' mk' H') → wp .go E sz c pf T mk ro H Qs) : WPS E sz (.loop c) T mk ro H Q :=
  let ⟨n0, h⟩ := h0
  wp_loopQ hn I n0 h step
theorem cut_00 (l : List Value) : cut l 0 0 = some [] := by rw [cut_eq]; simp
theorem cut_0s (x : Value) (l : List Value) (n : Nat) : cut (x :: l) 0 (n + 1) = (cut l 0 n).map (List.cons x) := by
  rw [cut_eq, cut_eq]
  by_cases h : n ≤ l.length
  · rw [if_pos (by simp; omega), if_pos (by omega)]; rfl
  · rw [if_neg (by simp; omega), if_neg (by omega)]; rfl
theorem cut_ss (x : Value) (l : List Value) (o n : Nat) : cut (x :: l) (o + 1) n = cut l o n := by
  rw [cut_eq, cut_eq]
  by_cases h : o + n ≤ l.length
  · rw [if_pos (by simp; omega), if_pos (by omega)]; rfl
  · rw [if_neg (by simp; omega), if_neg (by omega)]
theorem to_in {i : Int} {n : Nat} (h0 : 0 ≤ i) (h : i ≤ n) : to? i n = some i.toNat := by rw [to_eq, if_pos ⟨h0, h⟩]
theorem toNat_cast (n : Nat) : ((n : Int)).toNat = n := Int.toNat_natCast n
def Heap.putRow (H : Heap) (r g z : Nat) (cells : List Value) : Heap := { objs := H.objs.set r (.row cells (some (g, z)) true), grps := H.grps.set g [], next := H.next, lo := H.lo }
section
variable {H : Heap}
theorem putRow_get (r g z : Nat) (c : List Value) (x : Nat) : (H.putRow r g z c).objs.get x = bif x == r then some (.row c (some (g, z)) true) else H.objs.get x := by
  show (if x = r then some _ else H.objs x) = _
  by_cases h : x = r
  · simp [h]
  · rw [if_neg h, nbeq_ne h]; rfl
theorem putRow_grps (r g z : Nat) (c : List Value) (x : Nat) : (H.putRow r g z c).grps.get x = bif x == g then some [] else H.grps.get x := by
  show (if x = g then some _ else H.grps x) = _
  by_cases h : x = g
  · simp [h]
  · rw [if_neg h, nbeq_ne h]; rfl
theorem putRow_next (r g z : Nat) (c : List Value) : (H.putRow r g z c).next = H.next := Eq.trans rfl rfl
theorem putRow_lo (r g z : Nat) (c : List Value) : (H.putRow r g z c).lo = H.lo := Eq.trans rfl rfl
theorem putRow_relo (r g z : Nat) (c : List Value) (a : Nat) : (H.putRow r g z c).relo a = (H.relo a).putRow r g z c := Eq.trans rfl rfl
def wgG (H : Heap) (r o : Nat) (new : List Value) (cells : List Value) (g z : Nat) : Option (List Nat) → Option Heap
  | some [] => bif decide (H.lo ≤ r) && new.all isCell && decide (o + new.length ≤ cells.length) then some (H.putRow r g z (over new o cells)) else none
  | _ => H.writeG r o new
def wgR (H : Heap) (r o : Nat) (new : List Value) : Option AObj → Option Heap
  | some (.row cells (some (g, z)) true) => wgG H r o new cells g z (H.grps.get g)
  | _ => H.writeG r o new
theorem wgR_row (r o : Nat) (new cells : List Value) (g z : Nat) : wgR H r o new (some (.row cells (some (g, z)) true)) = wgG H r o new cells g z (H.grps.get g) := Eq.trans rfl rfl
theorem wgG_nil (r o : Nat) (new cells : List Value) (g z : Nat) : wgG H r o new cells g z (some []) = bif decide (H.lo ≤ r) && new.all isCell && decide (o + new.length ≤ cells.length) then some (H.putRow r g z (over new o cells)) else none := Eq.trans rfl rfl
theorem writeG_eq (r o : Nat) (new : List Value) : H.writeG r o new = wgR H r o new (H.objs.get r) := by
  unfold wgR
  split
  · rename_i cells g z h
    unfold wgG
    split
    · rename_i hg
      unfold Heap.writeG Heap.write
      simp only [h, hg, killAll, Option.bind_some, Tr.force_eq, ble_dec]
      by_cases h1 : H.lo ≤ r <;> by_cases h2 : new.all isCell = true <;> by_cases h3 : o + new.length ≤ cells.length <;> simp [h1, h2, h3, Heap.putRow]
    · rfl
  · rfl
theorem over_one (x : Value) (k : Nat) (l : List Value) (h : k < l.length) : over [x] k l = l.set k x := by
  rw [over_drop _ _ _ (by simpa using (show k + 1 ≤ l.length from h))]
  simp only [List.length_singleton]
  rw [List.set_eq_take_append_cons_drop, if_pos h]
  simp
end
def nilV (E : Env) (v : Value) : Option Value :=
  match v with
  | .pointer (some _) => some v
  | .func (.func _) _ _ => some v
  | .func (.yield _) _ _ => some v
  | .func (.via ..) _ _ => some v
  | .func (.method name) first _ => (match first.toList with
    | x :: _ => (methodOf E x name).bind fun _ => some v
    | [] => none)
  | .iface _ _ => some v
  | _ => none
section
variable {E : Env} {T : Tr Value} {H : Heap} {K : Tok → Value → Heap → Prop}
theorem OP_nilCheck (x : Operand) : OP .go E T (.nilCheck x) H K = optP .go (ev T x) fun t v => optP t (nilV E v) fun t v => K t v H := by
  have e : ∀ v : Value, (match v with
    | .pointer (some _) => some (v, H)
    | .func (.func _) _ _ => some (v, H)
    | .func (.yield _) _ _ => some (v, H)
    | .func (.via ..) _ _ => some (v, H)
    | .func (.method name) first _ => (match first.toList with
      | x :: _ => (methodOf E x name).bind fun _ => some (v, H)
      | [] => none)
    | .iface _ _ => some (v, H)
    | _ => none) = (nilV E v).bind fun v => some (v, H) := fun v => by
    unfold nilV
    split <;> first | rfl | (split <;> first | rfl | (simp only [Option.bind_assoc]; rfl))
  rw [OP_det fun _ => rfl]; simp only [exOp, resP_bind, optP]
  congr 1
  funext v
  congr 1
  exact (congrArg (fun o => resP .go o K) (e v)).trans (by rw [resP_bind]; simp only [resP_some, optP])
theorem nilV_ptr (r o : Nat) : nilV E (ptr r o) = some (ptr r o) := Eq.trans rfl rfl
theorem nilV_func (f : FuncId) (a b : Array Value) : nilV E (.func (.func f) a b) = some (.func (.func f) a b) := Eq.trans rfl rfl
theorem OP_lookup (ty : TypeId) (x i : Operand) (ok : Bool) : OP .go E T (.lookup ty x i ok) H K = optP .go (ev T x) fun t x => optP t (ev T i) fun t i => optP t (lookupV E H ty x i ok) fun t v => K t v H := by
  rw [OP_det fun _ => rfl]; simp only [exOp, resP_bind, resP_some, optP]
theorem OP_mapUpdate (ty : TypeId) (m k x : Operand) : OP .go E T (.mapUpdate ty m k x) H K = optP .go (ev T m) fun t m => optP t (ev T k) fun t k => optP t (ev T x) fun t x => optP t (mapUpdateV E H ty m k x) fun t H' => K t undef H' := by
  rw [OP_det fun _ => rfl]; simp only [exOp, resP_bind, resP_some, optP]
theorem OP_makeMap (ty : TypeId) : OP .go E T (.makeMap ty none) H K = K .go (.map (some H.next)) (H.add (.map [])) := by
  rw [OP_det fun _ => rfl]; simp only [exOp, resP_some]
theorem OP_invoke (x : Operand) (name : String) (as : Array Operand) (ts : Array TypeId) : OP .go E T (.call { callee := .invoke x name, args := as, argTypes := ts }) H K = optP .go (evs T as.toList) fun t vs => optP t (ev T x) fun t x => optP t (methodOf E x name) fun t m => CallA E (.func (.func m.1) #[] #[]) (m.2 :: vs) H (K .go) := by
  unfold OP CallA optP
  simp only [exOp, Option.bind_eq_some_iff, eq_iff_iff]
  constructor
  · rintro ⟨n, v, H', ⟨as, h1, x, h2, m, h3, h4⟩, hk⟩
    exact ⟨as, h1, x, h2, m, h3, n, v, H', h4, hk⟩
  · rintro ⟨as, h1, x, h2, m, h3, n, v, H', h4, hk⟩
    exact ⟨n, v, H', ⟨as, h1, x, h2, m, h3, h4⟩, hk⟩
theorem bin_pn (t : TypeId) (x y : Operand) (r o : Nat) : binV E .eql t x y (ptr r o) (.pointer none) = (eqV E (99 + 1) t (ptr r o) (.pointer none)).bind fun r => some (.bool r) := Eq.trans rfl rfl
theorem bin_nn (t : TypeId) (x y : Operand) : binV E .eql t x y (.pointer none) (.pointer none) = (eqV E (99 + 1) t (.pointer none) (.pointer none)).bind fun r => some (.bool r) := Eq.trans rfl rfl
theorem bin_pn' (t : TypeId) (x y : Operand) (r o : Nat) : binV E .neq t x y (ptr r o) (.pointer none) = (eqV E (99 + 1) t (ptr r o) (.pointer none)).bind fun r => some (.bool (!r)) := Eq.trans rfl rfl
theorem bin_nn' (t : TypeId) (x y : Operand) : binV E .neq t x y (.pointer none) (.pointer none) = (eqV E (99 + 1) t (.pointer none) (.pointer none)).bind fun r => some (.bool (!r)) := Eq.trans rfl rfl
end
theorem of_6 (a0 a1 a2 a3 a4 a5 : Value) : Tr.of [a0, a1, a2, a3, a4, a5] = ((((((Tr.nil.set 0 a0).set 1 a1).set 2 a2).set 3 a3).set 4 a4).set 5 a5) := Eq.trans rfl rfl
theorem of_7 (a0 a1 a2 a3 a4 a5 a6 : Value) : Tr.of [a0, a1, a2, a3, a4, a5, a6] = (((((((Tr.nil.set 0 a0).set 1 a1).set 2 a2).set 3 a3).set 4 a4).set 5 a5).set 6 a6) := Eq.trans rfl rfl
theorem of_8 (a0 a1 a2 a3 a4 a5 a6 a7 : Value) : Tr.of [a0, a1, a2, a3, a4, a5, a6, a7] = ((((((((Tr.nil.set 0 a0).set 1 a1).set 2 a2).set 3 a3).set 4 a4).set 5 a5).set 6 a6).set 7 a7) := Eq.trans rfl rfl
def slA (z : Nat) (ob : Option AObj) (r o : Nat) (b : Nat × Nat × Nat) (full : Bool) : Option Value :=
  match ob with
  | some (.row _ none _) => some (.slice (some ⟨r, bif Nat.beq b.2.2 b.1 then o else o + b.1 * z, none⟩) (b.2.1 - b.1) (b.2.2 - b.1))
  | some (.row _ (some (_, z')) _) => bif Nat.beq z' z then some (.slice (some ⟨r, bif full && Nat.beq b.2.2 b.1 then o else o + b.1 * z, none⟩) (b.2.1 - b.1) (b.2.2 - b.1)) else none
  | _ => none
def slS (E : Env) (H : Heap) (z r o n c : Nat) (lo hi mx : Option Value) : Option Value := bif !Nat.ble n c then none else (bounds n c lo hi mx).bind fun b => slA z (H.objs.get r) r o b mx.isSome
section
variable {E : Env} {T : Tr Value} {H : Heap}
theorem slS_eq (z r o n c : Nat) (lo hi mx : Option Value) (h : n ≤ c) : slS E H z r o n c lo hi mx = (bounds n c lo hi mx).bind fun b => slA z (H.objs.get r) r o b mx.isSome := by
  unfold slS; rw [Nat.ble_eq_true_of_le h]; rfl
theorem slA_row (z : Nat) (cs : List Value) (t : Bool) (r o l h m : Nat) (full : Bool) : slA z (some (.row cs none t)) r o (l, h, m) full = some (.slice (some ⟨r, if m = l then o else o + l * z, none⟩) (h - l) (m - l)) := by
  simp only [slA, beq_dec]; by_cases e : m = l <;> simp [e]
theorem slA_grp (z g : Nat) (cs : List Value) (t : Bool) (r o l h m : Nat) : slA z (some (.row cs (some (g, z)) t)) r o (l, h, m) true = some (.slice (some ⟨r, if m = l then o else o + l * z, none⟩) (h - l) (m - l)) := by
  simp only [slA, beq_dec]; by_cases e : m = l <;> simp [e]
theorem slA_grp' (z g : Nat) (cs : List Value) (t : Bool) (r o l h m : Nat) : slA z (some (.row cs (some (g, z)) t)) r o (l, h, m) false = some (.slice (some ⟨r, o + l * z, none⟩) (h - l) (m - l)) := by
  simp only [slA, beq_dec]; simp
theorem bounds_all (len cap : Nat) (k k' k'' : IntKind) (a b c : Int) : bounds len cap (some (.int k a)) (some (.int k' b)) (some (.int k'' c)) = (to? c cap).bind fun m => (to? b m).bind fun h => (to? a h).bind fun l => some (l, h, m) := Eq.trans rfl rfl
theorem bounds_lh (len cap : Nat) (k k' : IntKind) (a b : Int) : bounds len cap (some (.int k a)) (some (.int k' b)) none = (to? b cap).bind fun h => (to? a h).bind fun l => some (l, h, cap) := Eq.trans rfl rfl
theorem bounds_l (len cap : Nat) (k : IntKind) (a : Int) : bounds len cap (some (.int k a)) none none = (to? a len).bind fun l => some (l, len, cap) := Eq.trans rfl rfl
theorem bounds_h (len cap : Nat) (k : IntKind) (b : Int) : bounds len cap none (some (.int k b)) none = (to? b cap).bind fun h => some (0, h, cap) := Eq.trans rfl rfl
theorem bounds_0 (len cap : Nat) : bounds len cap none none none = some (0, len, cap) := Eq.trans rfl rfl
theorem evO_n : evO T none = some none := Eq.trans rfl rfl
theorem evO_s (x : Operand) : evO T (some x) = (ev T x).bind fun v => some (some v) := Eq.trans rfl rfl
end
set_option linter.defProp false
def sh2 := And.intro @OP_nilCheck <| And.intro @OP_lookup <| And.intro @OP_mapUpdate <| And.intro @OP_makeMap @OP_invoke
def sb := And.intro @of_4 <| And.intro @of_5 <| And.intro @of_6 <| And.intro @of_7 <| And.intro @of_8 <| And.intro @slS_eq <| And.intro @slA_row <| And.intro @slA_grp <| And.intro @slA_grp' <| And.intro @bounds_all <| And.intro @bounds_lh <| And.intro @bounds_l <| And.intro @bounds_h <| And.intro @bounds_0 <| And.intro @evO_n <| And.intro @evO_s <| And.intro @nilV_ptr <| And.intro @nilV_func <| And.intro @bin_pn <| And.intro @bin_nn <| And.intro @bin_pn' <| And.intro @bin_nn' <| And.intro @bin_sl <| And.intro @bin_sl_ne <| And.intro @bin_bl <| And.intro @bin_bl_ne <| And.intro @putRow_get <| And.intro @putRow_grps <| And.intro @putRow_next <| And.intro @putRow_lo <| And.intro @putRow_relo <| And.intro @writeV_grp <| And.intro @wgR_row <| And.intro @wgG_nil @writeG_eq
def sa := And.intro @Nat.mul_one <| And.intro @cut_00 <| And.intro @cut_0s <| And.intro @cut_ss <| And.intro @at_in <| And.intro @to_in @toNat_cast
def sm := And.intro @setRow_get <| And.intro @newRow_get <| And.intro @newRow_next <| And.intro @setRow_next <| And.intro @newRow_lo <| And.intro @setRow_lo <| And.intro @newRow_relo <| And.intro @setRow_relo <| And.intro @relo_objs <| And.intro @relo_next <| And.intro @relo_lo <| And.intro @relo_relo <| And.intro @newRow_grps <| And.intro @setRow_grps <| And.intro @relo_grps <| And.intro @putRow_get <| And.intro @putRow_grps <| And.intro @putRow_next <| And.intro @putRow_lo <| And.intro @putRow_relo @nbeq_ne
end Go.AM

namespace Go.AM
section
variable [Maps] {E : Env} {sz : Nat}
def WPH (E : Env) (sz : Nat) (v : Value) (c : Code) (T : Tr Value) (mk : List Nat) (ro : Option Nat) (H : Heap) (Q : Ex → Tr Value → List Nat → Heap → Prop) : Prop :=
  ∃ n ex T' mk' H', runHead E (run E n) v c { T, size := sz, marks := mk, round := ro } H = some (ex, { T := T', size := sz, marks := mk', round := ro }, H') ∧ Q ex T' mk' H'
theorem WPH.mono {v : Value} {c : Code} {T : Tr Value} {mk : List Nat} {ro : Option Nat} {H : Heap} {Q Q' : Ex → Tr Value → List Nat → Heap → Prop} (h : WPH E sz v c T mk ro H Q) (hq : ∀ ex T mk H, Q ex T mk H → Q' ex T mk H) : WPH E sz v c T mk ro H Q' := by
  obtain ⟨n, ex, T', mk', H', h1, h2⟩ := h
  exact ⟨n, ex, T', mk', H', h1, hq _ _ _ _ h2⟩
end
attribute [local instance] fnMaps
variable {E : Env} {sz : Nat}
end Go.AM

namespace Go.AM
section
attribute [local instance] fnMaps
variable {E : Env} {sz : Nat}
structure Yd (B : Nat) (ex : List Nat) (X X' : Heap) : Prop where
  lo : X'.lo = X.lo
  nxt : X.next ≤ X'.next
  below : ∀ x, x < B → x ∉ ex → X'.objs.get x = X.objs.get x
  grps : ∀ x, x < B → X'.grps.get x = X.grps.get x
  alone : ∀ x c t, x < X.next → x ∉ ex → X.objs.get x = some (.row c none t) → X'.objs.get x = some (.row c none t)
  cells : ∀ x c g t, x < X.next → x ∉ ex → X.objs.get x = some (.row c g t) → ∃ t', X'.objs.get x = some (.row c g t')
structure Pd (B : Nat) (X X' : Heap) : Prop where
  lo : X'.lo = X.lo
  nxt : X.next ≤ X'.next
  objs : ∀ x, x < B → X'.objs.get x = X.objs.get x
  grps : ∀ x, x < X.next → X'.grps.get x = X.grps.get x
  grp : ∀ x c g t, x < X.next → X.objs.get x = some (.row c (some g) t) → X'.objs.get x = some (.row c (some g) t)
theorem Yd.refl (B : Nat) (ex : List Nat) (X : Heap) : Yd B ex X X := ⟨rfl, Nat.le_refl _, fun _ _ _ => rfl, fun _ _ => rfl, fun _ _ _ _ _ h => h, fun _ _ _ t _ _ h => ⟨t, h⟩⟩
theorem Yd.trans {B : Nat} {ex : List Nat} {X Y Z : Heap} (h : Yd B ex X Y) (h' : Yd B ex Y Z) : Yd B ex X Z :=
  ⟨h'.lo.trans h.lo, Nat.le_trans h.nxt h'.nxt, fun x hx he => (h'.below x hx he).trans (h.below x hx he), fun x hx => (h'.grps x hx).trans (h.grps x hx), fun x c t hx he ho => h'.alone x c t (Nat.lt_of_lt_of_le hx h.nxt) he (h.alone x c t hx he ho),
    fun x c g t hx he ho => (h.cells x c g t hx he ho).elim fun t' h1 => h'.cells x c g t' (Nat.lt_of_lt_of_le hx h.nxt) he h1⟩
theorem Same.yd {B : Nat} {ex : List Nat} {X Y : Heap} (h : Same X Y) (hB : B ≤ X.next) : Yd B ex X Y :=
  ⟨h.lo, h.nxt, fun x hx _ => h.objs x (by omega), fun x hx => h.grps x (by omega), fun x c t hx _ ho => (h.objs x hx).trans ho, fun x c g t hx _ ho => ⟨t, (h.objs x hx).trans ho⟩⟩
theorem Yd.setRow {B : Nat} {ex : List Nat} {X Y : Heap} (h : Yd B ex X Y) {r : Nat} (hr : r ∈ ex) (c : List Value) : Yd B ex X (Y.setRow r c) := by
  have hne : ∀ x, x ∉ ex → x ≠ r := fun x hx e => hx (e ▸ hr)
  exact ⟨by rw [setRow_lo]; exact h.lo, by rw [setRow_next]; exact h.nxt, fun x hx he => by rw [setRow_get, nbeq_ne (hne x he)]; exact h.below x hx he, fun x hx => by rw [setRow_grps]; exact h.grps x hx, fun x c t hx he ho => by rw [setRow_get, nbeq_ne (hne x he)]; exact h.alone x c t hx he ho, fun x c g t hx he ho => by rw [setRow_get, nbeq_ne (hne x he)]; exact h.cells x c g t hx he ho⟩
theorem Yd.setO {B l : Nat} {ex : List Nat} {X Y : Heap} (h : Yd B ex X Y) (hl : l ∈ ex) (o : AObj) : Yd B ex X (Y.setObj l o) := by
  have hne : ∀ x, x ∉ ex → x ≠ l := fun x hx e => hx (e ▸ hl)
  exact ⟨by rw [setO_lo]; exact h.lo, by rw [setO_next]; exact h.nxt, fun x hx he => by rw [setO_get, nbeq_ne (hne x he)]; exact h.below x hx he, fun x hx => by rw [setO_grps]; exact h.grps x hx, fun x c t hx he ho => by rw [setO_get, nbeq_ne (hne x he)]; exact h.alone x c t hx he ho, fun x c g t hx he ho => by rw [setO_get, nbeq_ne (hne x he)]; exact h.cells x c g t hx he ho⟩
theorem Yd.ko {B : Nat} {ex : List Nat} {X X' : Heap} (h : Yd B ex X X') {Z : Heap} (hk : Ko X' Z) (hl : Z.lo = X'.lo) (hB : B ≤ X.next) : Yd B ex X Z := h.trans ((Ko.same hk hl).yd (Nat.le_trans hB h.nxt))
theorem Yd.grown {B b : Nat} {ex : List Nat} {X Y Z : Heap} (h : Yd B ex X Y) (g : Grown b Y Z) (hb : B ≤ b) : Yd B ex X Z :=
  h.trans ⟨g.lo, g.nxt, fun x hx _ => (g.below x (by omega)).1, fun x hx => (g.below x (by omega)).2, fun x c t hx _ ho => g.alone x c t hx ho, fun x c gg t hx _ ho => g.cells x c gg t hx ho⟩
theorem Pd.refl (B : Nat) (X : Heap) : Pd B X X := ⟨rfl, Nat.le_refl _, fun _ _ => rfl, fun _ _ => rfl, fun _ _ _ _ _ h => h⟩
theorem Pd.trans {B : Nat} {X Y Z : Heap} (h : Pd B X Y) (h' : Pd B Y Z) : Pd B X Z :=
  ⟨h'.lo.trans h.lo, Nat.le_trans h.nxt h'.nxt, fun x hx => (h'.objs x hx).trans (h.objs x hx), fun x hx => (h'.grps x (Nat.lt_of_lt_of_le hx h.nxt)).trans (h.grps x hx), fun x c g t hx ho => h'.grp x c g t (Nat.lt_of_lt_of_le hx h.nxt) (h.grp x c g t hx ho)⟩
theorem Same.pd {B : Nat} {X Y : Heap} (h : Same X Y) (hB : B ≤ X.next) : Pd B X Y :=
  ⟨h.lo, h.nxt, fun x hx => h.objs x (by omega), h.grps, fun x c g t hx ho => (h.objs x hx).trans ho⟩
theorem Pd.setRow {B : Nat} {X Y : Heap} (h : Pd B X Y) {r : Nat} (hr : B ≤ r) (ha : ∃ c0 t0, Y.objs.get r = some (.row c0 none t0)) (c : List Value) : Pd B X (Y.setRow r c) := by
  refine h.trans ⟨rfl, Nat.le_refl _, fun x hx => by rw [setRow_get, nbeq_ne (by omega)]; rfl, fun x _ => by rw [setRow_grps], fun x c1 g t hx ho => ?_⟩
  have : x ≠ r := fun e => by subst e; obtain ⟨c0, t0, h0⟩ := ha; rw [h0] at ho; cases ho
  rw [setRow_get, nbeq_ne this]; exact ho
def Fresh (b : Nat) (v : Value) : Prop := ∀ a n c, v = .slice a n c → a = none ∨ ∃ r, a = some ⟨r, 0, none⟩ ∧ b ≤ r
theorem Fresh.nil (b n c : Nat) : Fresh b (.slice none n c) := fun a _ _ e => by cases e; exact .inl rfl
theorem Fresh.mk (b r n c : Nat) (h : b ≤ r) : Fresh b (.slice (some ⟨r, 0, none⟩) n c) := fun a _ _ e => by cases e; exact .inr ⟨r, rfl, h⟩
theorem Fresh.le {b b' : Nat} {v : Value} (h : Fresh b v) (hb : b' ≤ b) : Fresh b' v := fun a n c e => (h a n c e).elim .inl fun ⟨r, h1, h2⟩ => .inr ⟨r, h1, by omega⟩
theorem SL.yd {α : Type} {R : Heap → List Value → α → Prop} (hR : ∀ X X' part x, R X part x → R X' part x) {z B : Nat} {ex : List Nat} {X X' : Heap} {v : Value} {l : List α} (h : SL R z X v l) (hf : Fresh B v) (hex : ∀ x : Nat, x ∈ ex → x < B) (y : Yd B ex X X') : SL R z X' v l := by
  obtain ⟨a, cap, rfl, hc, hl⟩ := h
  refine ⟨a, cap, rfl, hc, fun i x hx => ?_⟩
  obtain ⟨r, o, cells, g, t, part, rfl, h1, h2, h3, h4⟩ := hl i x hx
  rcases hf _ _ _ rfl with hn | ⟨r', hr, hb⟩
  · cases hn
  · cases hr
    obtain ⟨t', h5⟩ := y.cells r cells g t h1 (fun hh => by have := hex r hh; omega) h2
    exact ⟨r, 0, cells, g, t', part, rfl, Nat.lt_of_lt_of_le h1 y.nxt, h5, h3, hR _ _ _ _ h4⟩
structure RBase (H : Heap) (ex : List Nat) (X : Heap) : Prop where
  lo : X.lo = H.lo
  nxt : H.next + 2 ≤ X.next
  dfr : X.objs.get H.next = some .defers
  objs : ∀ x, x < H.next → x ∉ ex → X.objs.get x = H.objs.get x
  grps : ∀ x, x < H.next → X.grps.get x = H.grps.get x
theorem RBase.pd {H : Heap} {ex : List Nat} {X X' : Heap} (h : RBase H ex X) (p : Pd (H.next + 2) X X') : RBase H ex X' :=
  ⟨p.lo.trans h.lo, Nat.le_trans h.nxt p.nxt, (p.objs _ (by omega)).trans h.dfr, fun x hx he => (p.objs x (by omega)).trans (h.objs x hx he), fun x hx => (p.grps x (by have := h.nxt; omega)).trans (h.grps x hx)⟩
theorem RBase.yd {H : Heap} {ex : List Nat} {X X' : Heap} (h : RBase H ex X) (hex : ∀ x ∈ ex, x < H.next) (p : Yd (H.next + 2) ex X X') : RBase H ex X' :=
  ⟨p.lo.trans h.lo, Nat.le_trans h.nxt p.nxt, (p.below _ (by omega) fun hh => by have := hex _ hh; omega).trans h.dfr, fun x hx he => (p.below x (by omega) he).trans (h.objs x hx he), fun x hx => (p.grps x (by omega)).trans (h.grps x hx)⟩
theorem RBase.setO {H : Heap} {ex : List Nat} {X : Heap} (h : RBase H ex X) (o : AObj) : RBase H ex (X.setObj (H.next + 1) o) :=
  ⟨by rw [setO_lo]; exact h.lo, by rw [setO_next]; exact h.nxt, by rw [setO_get, nbeq_ne (by omega)]; exact h.dfr, fun x hx he => by rw [setO_get, nbeq_ne (by omega)]; exact h.objs x hx he, fun x hx => by rw [setO_grps]; exact h.grps x hx⟩
structure OffL (l : Nat) (X X' : Heap) : Prop where
  lo : X'.lo = X.lo
  next : X'.next = X.next
  objs : ∀ x, x ≠ l → X'.objs.get x = X.objs.get x
  grps : ∀ x, X'.grps.get x = X.grps.get x
theorem OffL.setO (l : Nat) (X : Heap) (o : AObj) : OffL l X (X.setObj l o) := ⟨setO_lo .., setO_next .., fun x hx => by rw [setO_get, nbeq_ne hx]; rfl, fun x => by rw [setO_grps]⟩
end
end Go.AM

namespace Go.AM
section
variable [Maps] {B lo0 : Nat} {m : Match} {H : Heap} {w : World} {E : Env}
theorem calls_of_one (hE : EnvOk E) {g : FuncId} {fn : Func} {c : Code} {args : List Value} {args' : Array Value} {v : Value} (h1 : E.fn.get g = some fn) (h2 : fn.body = some c) (h3 : args.length ≤ fn.ntmps)
    (h : Ends E fn [c] { T := Tr.of args, size := fn.ntmps, marks := [], round := none } H v) (hv : ∀ m v', VRel m v v' → v' = v) (hR : Rel B H.lo m H w) (ha : LRel m args args'.toList) :
    Calls E.P g args' w fun e w' => e = .returned v ∧ Old B w w' := by
  rw [← callsIn_wide (n := 0)]
  have hf := hE.fn g fn h1
  refine callsIn_of_wp_marks hf h2 trivial ?_
  have hfr : FrRel m { T := Tr.of args, size := fn.ntmps, marks := [], round := none } { tmps := args' ++ Array.replicate (fn.ntmps - args'.size) undef, defers := [] } none := by
    refine ⟨fun t v hv => ?_, ?_, trivial, fun _ => rfl⟩
    · obtain ⟨v', e1, e2⟩ := ha.get (Tr.get_of hv)
      have : t < args'.size := by simpa using (List.getElem?_eq_some_iff.1 e1).1
      exact ⟨v', by rw [Array.getElem?_append_left this]; simpa using e1, e2⟩
    · have := ha.1
      simp at this ⊢; omega
  have one : c.wpIn (fenceOf none) 0 E.P (Fin E fn B H.lo w v) { tmps := args' ++ Array.replicate (fn.ntmps - args'.size) undef, defers := [] } w :=
    Go.wpIn_mono (h B m _ w hR hfr) fun e a' w' he => by cases e <;> exact he
  refine Go.wpIn_mono one fun e a' w' hp => ?_
  obtain ⟨he, hold, m', H', fr', t, vs, hl, hR', hf', hk, hr, hp⟩ := hp
  have hleave : LeavesInM Fence.wide 0 E.P fn a'.tmps (fun e w'' => e = .returned v ∧ Old B w w'') a'.defers .returning w' := by
    refine marks_leave (B := B) (lo0 := H.lo) fr'.marks a'.defers H' w' t hf'.marks hR' (by rw [hl]; exact hk) fun w'' hg' => ?_
    obtain ⟨v', r1, r2⟩ := results_sim hE hg'.rel hf'.tmps hr
    rw [hp] at r2
    refine ⟨v', r1, by rw [hv m' v' r2], hold.trans ?_⟩
    refine ⟨fun b hb => hg'.frame b (Nat.lt_of_lt_of_le hb hR'.base) fun r p hrp hlp hpb => ?_, hg'.size, hg'.os⟩
    have := (hR'.dom r p hrp).2.2.1 (by rw [← hl]; exact hlp)
    omega
  rcases he with rfl | rfl
  · exact hleave
  · exact hleave
theorem calls_of_callA (hE : EnvOk E) (hO : OrcOk E) {g : FuncId} {fn : Func} {c : Code} {args : List Value} {args' : Array Value} {v : Value} (ho : E.orc (.func (.func g) #[] #[]) args H = none) (h1 : E.fn.get g = some fn) (h2 : fn.body = some c)
    (h : CallA E (.func (.func g) #[] #[]) args H fun v' _ => v' = v) (hv : ∀ m v', VRel m v v' → v' = v) (hR : Rel B H.lo m H w) (ha : LRel m args args'.toList) :
    Calls E.P g args' w fun e w' => e = .returned v ∧ Old B w w' := by
  obtain ⟨n, v', H', h4, h5⟩ := h
  subst h5
  unfold callWith at h4
  rw [ho] at h4
  simp only [callBody, target, List.append_nil, List.nil_append, Option.bind_some, h1, h2] at h4
  obtain ⟨h3, h4⟩ := bne_cond h4
  simp only [Option.bind_eq_some_iff] at h4
  obtain ⟨r, h6, h7⟩ := h4
  have hle : args.length ≤ fn.ntmps := by
    simp only [Bool.not_eq_false'] at h3
    exact Nat.le_of_ble_eq_true h3
  have hend : endN E n fn [c] { T := Tr.of args, size := fn.ntmps, marks := [], round := none } H = some v' := by
    obtain ⟨ex, fr, H2⟩ := r
    unfold endN
    cases ex with
    | exit i => simp at h7
    | normal =>
      simp only [Tr.force_eq, Option.bind_eq_some_iff, Option.some.injEq, Prod.mk.injEq] at h7
      obtain ⟨t, h8, vs, h9, h10, _⟩ := h7
      simp only [runL, h6, Option.bind_some, h8, h9, h10]
    | ret =>
      simp only [Tr.force_eq, Option.bind_eq_some_iff, Option.some.injEq, Prod.mk.injEq] at h7
      obtain ⟨t, h8, vs, h9, h10, _⟩ := h7
      simp only [runL, h6, Option.bind_some, h8, h9, h10]
  exact calls_of_one hE h1 h2 hle (Ends.last hE hO hend) hv hR ha
end
end Go.AM

namespace Go.AM
attribute [local instance] fnMaps
section
variable (w : World)
def roomAt (b : Nat) : Nat :=
  match w.heap[b]? with
  | some (.cells C _ _) => C.size
  | _ => 0
def mostRoom : Nat → Nat
  | 0 => 0
  | n + 1 => max (roomAt w n) (mostRoom n)
theorem roomAt_le {b n : Nat} (h : b < n) : roomAt w b ≤ mostRoom w n := by
  induction n with
  | zero => omega
  | succ n ih =>
    simp only [mostRoom]
    by_cases hb : b = n
    · subst hb; omega
    · have := ih (by omega); omega
def codeOf (b o : Nat) : Nat := o * w.heap.size + b
def isBlock (b : Nat) : Bool :=
  match w.heap[b]? with
  | some (.cells _ _ _) => true
  | _ => false
def someBlock : Option Nat := (List.range w.heap.size).find? (isBlock w)
def wtop : Nat := (mostRoom w w.heap.size + 1) * w.heap.size
def placeOk (a : Addr) : Bool := a.spot.isNone && isBlock w a.block && Nat.ble a.off (roomAt w a.block)
def okV : Value → Bool
  | .bool _ | .int _ _ | .string _ | .slice none _ _ => true
  | .slice (some a) l c => placeOk w a || (Nat.beq l 0 && Nat.beq c 0 && (someBlock w).isSome)
  | _ => false
def trV : Value → Value
  | .slice (some a) l c => bif placeOk w a then .slice (some ⟨codeOf w a.block a.off, 0, none⟩) l c else .slice (some ⟨wtop w, 0, none⟩) 0 0
  | v => v
def rowAt (b o : Nat) : List Value :=
  match w.heap[b]? with
  | some (.cells C _ _) => ((C.toList.drop o).takeWhile (okV w)).map (trV w)
  | _ => []
def wm : Match := fun r =>
  if r = wtop w then (someBlock w).map fun b => ⟨b, 0, roomAt w b, false, 0⟩
  else bif isBlock w (r % w.heap.size) && Nat.ble (r / w.heap.size) (roomAt w (r % w.heap.size)) then some ⟨r % w.heap.size, r / w.heap.size, roomAt w (r % w.heap.size), true, 0⟩ else none
def wh : Heap := { objs := fun r => if r = wtop w then some (.row [] (some (0, 0)) false) else some (.row (rowAt w (r % w.heap.size) (r / w.heap.size)) none true), grps := fun _ => none, next := wtop w + 1, lo := wtop w + 1 }
theorem isBlock_lt {b : Nat} (h : isBlock w b = true) : b < w.heap.size := by
  unfold isBlock at h
  split at h
  · rename_i hc; exact (Array.getElem?_eq_some_iff.1 hc).1
  · cases h
theorem isBlock_inv {b : Nat} (h : isBlock w b = true) : ∃ C e fr, w.heap[b]? = some (.cells C e fr) ∧ roomAt w b = C.size := by
  unfold isBlock at h
  split at h
  · rename_i C e fr hc; exact ⟨C, e, fr, hc, by unfold roomAt; rw [hc]⟩
  · cases h
theorem someBlock_ok {b : Nat} (h : someBlock w = some b) : isBlock w b = true := List.find?_some h
theorem someBlock_some {b : Nat} (h : isBlock w b = true) : (someBlock w).isSome = true := by
  unfold someBlock
  rw [List.find?_isSome]
  exact ⟨b, by simpa using isBlock_lt w h, h⟩
theorem code_mod {b o : Nat} (h : b < w.heap.size) : codeOf w b o % w.heap.size = b ∧ codeOf w b o / w.heap.size = o := by
  unfold codeOf
  have hp : 0 < w.heap.size := by omega
  constructor
  · rw [Nat.mul_comm, Nat.mul_add_mod, Nat.mod_eq_of_lt h]
  · rw [Nat.mul_comm, Nat.mul_add_div hp, Nat.div_eq_of_lt h, Nat.add_zero]
theorem row_lt {r : Nat} (h1 : isBlock w (r % w.heap.size) = true) (h2 : r / w.heap.size ≤ roomAt w (r % w.heap.size)) : r < wtop w := by
  have h3 := isBlock_lt w h1
  have h4 := roomAt_le w h3
  have h5 := Nat.div_add_mod r w.heap.size
  unfold wtop
  have h6 : r / w.heap.size ≤ mostRoom w w.heap.size := by omega
  have h7 := Nat.mul_le_mul_left w.heap.size h6
  rw [Nat.add_mul, Nat.one_mul, Nat.mul_comm (mostRoom w w.heap.size)]
  omega
theorem code_lt {b o : Nat} (h : isBlock w b = true) (ho : o ≤ roomAt w b) : codeOf w b o < wtop w := by
  obtain ⟨h1, h2⟩ := code_mod w (o := o) (isBlock_lt w h)
  exact row_lt w (by rw [h1]; exact h) (by rw [h1, h2]; exact ho)
theorem wm_code {b o : Nat} (h : isBlock w b = true) (ho : o ≤ roomAt w b) : wm w (codeOf w b o) = some ⟨b, o, roomAt w b, true, 0⟩ := by
  obtain ⟨h1, h2⟩ := code_mod w (o := o) (isBlock_lt w h)
  have := code_lt w h ho
  unfold wm
  rw [if_neg (by omega), h1, h2, h, Nat.ble_eq_true_of_le ho]
  rfl
theorem wm_inv {r : Nat} {p : Spot} (h : wm w r = some p) : (r = wtop w ∧ isBlock w p.blk = true ∧ p = ⟨p.blk, 0, roomAt w p.blk, false, 0⟩) ∨
    (r < wtop w ∧ isBlock w (r % w.heap.size) = true ∧ r / w.heap.size ≤ roomAt w (r % w.heap.size) ∧ p = ⟨r % w.heap.size, r / w.heap.size, roomAt w (r % w.heap.size), true, 0⟩) := by
  unfold wm at h
  split at h
  · rename_i hr
    simp only [Option.map_eq_some_iff] at h
    obtain ⟨b, hb, rfl⟩ := h
    exact .inl ⟨hr, someBlock_ok w hb, rfl⟩
  · right
    cases hb : isBlock w (r % w.heap.size) with
    | false => rw [hb] at h; simp at h
    | true =>
      cases ho : Nat.ble (r / w.heap.size) (roomAt w (r % w.heap.size)) with
      | false => rw [hb, ho] at h; simp at h
      | true =>
        rw [hb, ho] at h
        simp only [Bool.and_self, cond_true, Option.some.injEq] at h
        have h2 := Nat.le_of_ble_eq_true ho
        exact ⟨row_lt w hb h2, rfl, h2, h.symm⟩
theorem wh_get {r : Nat} (h : r ≠ wtop w) : (wh w).objs.get r = some (.row (rowAt w (r % w.heap.size) (r / w.heap.size)) none true) := by
  show (if r = wtop w then _ else _) = _
  rw [if_neg h]
theorem wh_top : (wh w).objs.get (wtop w) = some (.row [] (some (0, 0)) false) := by
  show (if wtop w = wtop w then _ else _) = _
  rw [if_pos rfl]
theorem wh_code {b o : Nat} (h : isBlock w b = true) (ho : o ≤ roomAt w b) : (wh w).objs.get (codeOf w b o) = some (.row (rowAt w b o) none true) := by
  obtain ⟨h1, h2⟩ := code_mod w (o := o) (isBlock_lt w h)
  have := code_lt w h ho
  rw [wh_get w (by omega), h1, h2]
theorem place_inv {a : Addr} (h : placeOk w a = true) : a.spot = none ∧ isBlock w a.block = true ∧ a.off ≤ roomAt w a.block := by
  simp only [placeOk, Bool.and_eq_true] at h
  exact ⟨by simpa using h.1.1, h.1.2, Nat.le_of_ble_eq_true h.2⟩
theorem okV_rel {v : Value} (h : okV w v = true) : VRel (wm w) (trV w v) v := by
  match v, h with
  | .bool b, _ => exact .bool b
  | .int k n, _ => exact .int k n
  | .string s, _ => exact .string s
  | .slice none l c, _ => exact .nilSlice l c
  | .slice (some a) l c, h =>
    simp only [trV]
    cases hp : placeOk w a with
    | true =>
      obtain ⟨h1, h2, h3⟩ := place_inv w hp
      obtain ⟨b, o, s⟩ := a
      simp only at h1 h2 h3
      subst h1
      exact VRel.slice (m := wm w) (r := codeOf w b o) (o := 0) (l := l) (c := c) (c' := c) (wm_code w h2 h3) (Nat.le_refl _) (fun _ => rfl) (fun h => by cases h)
    | false =>
      simp only [okV, hp, Bool.false_or, Bool.and_eq_true] at h
      obtain ⟨⟨h1, h2⟩, h3⟩ := h
      have h1 := Nat.eq_of_beq_eq_true h1
      have h2 := Nat.eq_of_beq_eq_true h2
      subst h1 h2
      obtain ⟨b, hb⟩ := Option.isSome_iff_exists.1 h3
      have hm : wm w (wtop w) = some ⟨b, 0, roomAt w b, false, 0⟩ := by
        unfold wm
        rw [if_pos rfl, hb]
        rfl
      exact VRel.empty (r := wtop w) (o := 0) a hm rfl
theorem tw_get {p : Value → Bool} : ∀ {l : List Value} {i : Nat} {u : Value}, (l.takeWhile p)[i]? = some u → l[i]? = some u ∧ p u = true
  | [], i, u, h => by simp at h
  | x :: l, i, u, h => by
    by_cases hx : p x = true
    · rw [List.takeWhile_cons_of_pos hx] at h
      cases i with
      | zero => simp at h; subst h; exact ⟨rfl, hx⟩
      | succ i => simpa using tw_get (l := l) (by simpa using h)
    · rw [List.takeWhile_cons_of_neg hx] at h
      simp at h
theorem tw_len {p : Value → Bool} : ∀ (l : List Value), (l.takeWhile p).length ≤ l.length
  | [] => by simp
  | x :: l => by
    by_cases hx : p x = true
    · rw [List.takeWhile_cons_of_pos hx]; simp; exact tw_len l
    · rw [List.takeWhile_cons_of_neg hx]; simp
theorem tw_all {p : Value → Bool} : ∀ (l : List Value) (n : Nat), (∀ i u, i < n → l[i]? = some u → p u = true) → n ≤ l.length → ∀ i, i < n → (l.takeWhile p)[i]? = l[i]?
  | [], n, _, hn, i, hi => by simp at hn; omega
  | x :: l, 0, _, _, i, hi => by omega
  | x :: l, n + 1, h, hn, i, hi => by
    have hx : p x = true := h 0 x (by omega) rfl
    rw [List.takeWhile_cons_of_pos hx]
    cases i with
    | zero => rfl
    | succ i =>
      simp only [List.getElem?_cons_succ]
      exact tw_all l n (fun j u hj hu => h (j + 1) u (by omega) (by simpa using hu)) (by simpa using hn) i (by omega)
theorem rowAt_eq {b o : Nat} {C : Array Value} {e : TypeId} {fr : Nat × Nat} (hC : w.heap[b]? = some (.cells C e fr)) : rowAt w b o = ((C.toList.drop o).takeWhile (okV w)).map (trV w) := by
  unfold rowAt; rw [hC]
theorem rowAt_rel {b o : Nat} {C : Array Value} {e : TypeId} {fr : Nat × Nat} (hC : w.heap[b]? = some (.cells C e fr)) (ho : o ≤ C.size) : o + (rowAt w b o).length ≤ C.size ∧ CRel (wm w) (rowAt w b o) C o := by
  rw [rowAt_eq w hC]
  have hlen := tw_len (p := okV w) (C.toList.drop o)
  refine ⟨?_, fun i v hi => ?_⟩
  · simp only [List.length_map]
    have : (C.toList.drop o).length = C.size - o := by simp
    omega
  · simp only [List.getElem?_map, Option.map_eq_some_iff] at hi
    obtain ⟨u, hu, rfl⟩ := hi
    obtain ⟨h1, h2⟩ := tw_get hu
    refine ⟨u, ?_, okV_rel w h2⟩
    rw [List.getElem?_drop] at h1
    simpa using h1
theorem world_rel (hg : GN ≤ w.heap.size ∧ GL w) : Rel w.heap.size (wh w).lo (wm w) (wh w) w where
  base := Nat.le_refl _
  glo := hg
  lo := Nat.le_refl _
  nxt := Nat.le_refl _
  dom r p h := by
    rcases wm_inv w h with ⟨rfl, h1, _⟩ | ⟨h0, h1, h2, rfl⟩
    · exact ⟨Nat.lt_succ_self _, isBlock_lt w h1, fun h4 => absurd h4 (Nat.not_succ_le_self _), fun _ => isBlock_lt w h1⟩
    · exact ⟨Nat.lt_succ_of_lt h0, isBlock_lt w h1, fun h4 => absurd (Nat.lt_succ_of_lt h0) (Nat.not_lt.2 h4), fun _ => isBlock_lt w h1⟩
  obj r p o h ho := by
    rcases wm_inv w h with ⟨rfl, h1, hp⟩ | ⟨h0, h1, h2, rfl⟩
    · obtain ⟨C, e, fr, hC, hroom⟩ := isBlock_inv w h1
      rw [wh_top] at ho
      simp only [Option.some.injEq] at ho
      subst ho
      rw [hp]
      refine ⟨⟨C, e, fr, hC, hroom.symm, fun hw => ?_, Nat.zero_le _, fun i v hi => by simp at hi⟩, rfl, fun g z h => ?_⟩
      · simp only [decide_eq_true_eq] at hw
        exact absurd hw (Nat.not_succ_le_self _)
      · simp only [Option.some.injEq, Prod.mk.injEq] at h
        exact h.2
    · obtain ⟨C, e, fr, hC, hroom⟩ := isBlock_inv w h1
      rw [wh_get w (by omega)] at ho
      simp only [Option.some.injEq] at ho
      subst ho
      rw [hroom] at h2
      obtain ⟨h4, h5⟩ := rowAt_rel w hC h2
      refine ⟨⟨C, e, fr, hC, hroom.symm, fun hw => ?_, h4, h5⟩, rfl, fun g z h => by cases h⟩
      simp only [decide_eq_true_eq] at hw
      exact absurd (Nat.lt_succ_of_lt h0) (Nat.not_lt.2 hw)
  sep r r' p p' o o' _ hlo h _ _ _ _ := by
    rcases wm_inv w h with ⟨rfl, _⟩ | ⟨h0, _⟩
    · exact absurd hlo (Nat.not_succ_le_self _)
    · exact absurd (Nat.lt_succ_of_lt h0) (Nat.not_lt.2 hlo)
  tip r r' p p' c c' g z z' _ _ h := by
    by_cases hr : r = wtop w
    · subst hr; rw [wh_top] at h; simp at h
    · rw [wh_get w hr] at h; simp at h
  old r p c g z _ h l hl := by
    have : (none : Option (List Nat)) = some l := hl
    cases this
  ends r r' p p' c c' g z z' t _ _ h := by
    by_cases hr : r = wtop w
    · subst hr; rw [wh_top] at h; simp at h
    · rw [wh_get w hr] at h; simp at h
  grp r p c g z t _ h := by
    by_cases hr : r = wtop w
    · subst hr; rw [wh_top] at h
      simp only [Option.some.injEq, AObj.row.injEq, Prod.mk.injEq] at h
      rw [← h.2.1.1]
      exact Nat.succ_pos _
    · rw [wh_get w hr] at h; simp at h
variable {w}
theorem cells_get {base : Nat} {a : Addr} {n : Nat} {cs : List Value} (h : w.cells? base a n = some cs) : cs.length = n ∧ ∀ j, j < n → w.cell? (a.add j) = cs[j]? := by
  unfold World.cells? at h
  split at h
  · refine ⟨by simpa using mapM_some_length h, fun j hj => ?_⟩
    exact mapM_some_get h j j (by simp [hj])
  · cases h
theorem add_add (a : Addr) (m n : Nat) : (a.add m).add n = a.add (m + n) := by
  by_cases hn : n = 0
  · subst hn; simp [Addr.add]
  · by_cases hm : m = 0
    · subst hm; simp [Addr.add]
    · have : m + n ≠ 0 := by omega
      simp [Addr.add, hn, hm, this, Nat.add_assoc]
theorem add_block (a : Addr) (n : Nat) : (a.add n).block = a.block := by
  unfold Addr.add; split <;> rfl
theorem add_off (a : Addr) (n : Nat) : (a.add n).off = a.off + n := by
  unfold Addr.add; split
  · subst_vars; rfl
  · rfl
theorem add_spot {a : Addr} (h : a.spot = none) (n : Nat) : (a.add n).spot = none := by
  unfold Addr.add; split
  · exact h
  · rfl
theorem cell_inv {a : Addr} {v : Value} (h : w.cell? a = some v) : a.spot = none ∧ ∃ C e fr, w.heap[a.block]? = some (.cells C e fr) ∧ C[a.off]? = some v := by
  unfold World.cell? at h
  split at h
  · rename_i C e fr hC
    split at h
    · cases h
    · rename_i hs
      exact ⟨by simpa using hs, C, e, fr, hC, h⟩
  · cases h
theorem SL.ofTrod {H : Type} {enc : TypeId × Value → H} {P : Program} {base : Nat} {held : Bool} {α : Type} {R : Heap → List Value → α → Prop} {z : Nat} {t e : TypeId} (ht : P.underlying t = some (.slice e)) (hz : P.cellsOf e = z) (hz0 : 0 < z)
    (elem : (someBlock w).isSome = true → ∀ fuel cs y, DataW.trod enc P w base (fun _ => true) held fuel e cs = some y → (∀ v ∈ cs, okV w v = true) ∧ ∃ x, R (wh w) (cs.map (trV w)) x)
    {fuel : Nat} {cs : List Value} {y : DataW H × List MemPlace} (h : DataW.trod enc P w base (fun _ => true) held fuel t cs = some y) (hany : ∀ a len cap, cs = [.slice (some a) len cap] → (someBlock w).isSome = true) :
    ∃ v, cs = [v] ∧ okV w v = true ∧ ∃ l, SL R z (wh w) (trV w v) l := by
  rcases DataW.trod_slice ht h with ⟨rfl, _⟩ | ⟨a, len, cap, elems, rest, n, _, rfl, _, hb, hl, hm, hlen, hel, hsp, _⟩
  · exact ⟨_, rfl, rfl, [], SL.nil R z 0⟩
  have hb1 := hany a len cap rfl
  obtain ⟨hrl, hrest⟩ := hsp rfl
  rw [hz] at hel hrest
  -- each element, the spare ones too
  have each : ∀ i, i < cap → ∃ cs, w.cells? base (a.add (i * z)) z = some cs ∧ (∀ v ∈ cs, okV w v = true) ∧ ∃ x, R (wh w) (cs.map (trV w)) x := by
    intro i hi
    have : ∃ y, (w.cells? base (a.add (i * z)) z).bind (DataW.trod enc P w base (fun _ => true) held n e) = some y := by
      by_cases hil : i < len
      · rw [hel i hil]
        exact ⟨elems[i], List.getElem?_eq_getElem (by omega)⟩
      · have := hrest (i - len) (by omega)
        rw [show len + (i - len) = i by omega] at this
        rw [this]
        exact ⟨rest[i - len], List.getElem?_eq_getElem (by omega)⟩
    obtain ⟨y, hy⟩ := this
    simp only [Option.bind_eq_some_iff] at hy
    obtain ⟨cs, h1, h2⟩ := hy
    exact ⟨cs, h1, elem hb1 n cs y h2⟩
  by_cases hc : cap = 0
  · subst hc
    have hl0 : len = 0 := by omega
    subst hl0
    refine ⟨_, rfl, by simp [okV, hb1], [], ?_⟩
    simp only [trV]
    cases placeOk w a with
    | true => exact ⟨_, 0, rfl, ⟨Nat.le_refl _, by simp⟩, fun i x hi => by simp at hi⟩
    | false => exact ⟨_, 0, rfl, ⟨Nat.le_refl _, by simp⟩, fun i x hi => by simp at hi⟩
  -- its block
  have hcell : ∀ k, k < cap * z → ∃ u, w.cell? (a.add k) = some u ∧ okV w u = true := by
    intro k hk
    obtain ⟨cs, h1, h2, _⟩ := each (k / z) ((Nat.div_lt_iff_lt_mul hz0).2 hk)
    obtain ⟨h3, h4⟩ := cells_get h1
    have h5 := h4 (k % z) (Nat.mod_lt _ hz0)
    have h6 : (a.add (k / z * z)).add (k % z) = a.add k := by
      rw [add_add, show k / z * z + k % z = k from by rw [Nat.mul_comm]; exact Nat.div_add_mod k z]
    rw [h6] at h5
    have h7 : k % z < cs.length := by rw [h3]; exact Nat.mod_lt _ hz0
    rw [List.getElem?_eq_getElem h7] at h5
    exact ⟨_, h5, h2 _ (List.getElem_mem h7)⟩
  obtain ⟨u0, hu0, _⟩ := hcell 0 (Nat.mul_pos (by omega) hz0)
  obtain ⟨hspot, C, el, fr, hC, hC0⟩ := cell_inv hu0
  have hspot : a.spot = none := by simpa [Addr.add] using hspot
  have hblk : isBlock w a.block = true := by
    unfold isBlock
    rw [show w.heap[a.block]? = some (.cells C el fr) from hC]
  have hroom : roomAt w a.block = C.size := by
    unfold roomAt
    rw [show w.heap[a.block]? = some (.cells C el fr) from hC]
  have hin : ∀ k, k < cap * z → ∃ u, C[a.off + k]? = some u ∧ okV w u = true := by
    intro k hk
    obtain ⟨u, h1, h2⟩ := hcell k hk
    obtain ⟨_, C', e', fr', hC', h3⟩ := cell_inv h1
    have h4 : (a.add k).block = a.block := add_block a k
    rw [add_off] at h3
    rw [h4, show w.heap[a.block]? = some (.cells C el fr) from hC] at hC'
    simp only [Option.some.injEq, Obj.cells.injEq] at hC'
    obtain ⟨rfl, _, _⟩ := hC'
    exact ⟨u, h3, h2⟩
  have hoff : a.off < C.size := by
    have : C[a.off + 0]? = some u0 := hC0
    simpa using (Array.getElem?_eq_some_iff.1 this).1
  have hplace : placeOk w a = true := by
    unfold placeOk
    rw [hspot, hblk, hroom, Nat.ble_eq_true_of_le (Nat.le_of_lt hoff)]
    rfl
  -- its row
  have hlast : a.off + cap * z ≤ C.size := by
    obtain ⟨u, h1, _⟩ := hin (cap * z - 1) (by have := Nat.mul_pos (show 0 < cap by omega) hz0; omega)
    have := (Array.getElem?_eq_some_iff.1 h1).1
    have := Nat.mul_pos (show 0 < cap by omega) hz0
    omega
  have hrow : ∀ k, k < cap * z → (rowAt w a.block a.off)[k]? = (C[a.off + k]?).map (trV w) := by
    intro k hk
    rw [rowAt_eq w (show w.heap[a.block]? = some (.cells C el fr) from hC), List.getElem?_map]
    rw [tw_all (p := okV w) (C.toList.drop a.off) (cap * z) (fun i u hi hu => ?_) (by simp; omega) k hk]
    · congr 1
      rw [List.getElem?_drop]
      simp
    · rw [List.getElem?_drop] at hu
      obtain ⟨u', h1, h2⟩ := hin i hi
      have : C[a.off + i]? = some u := by simpa using hu
      rw [h1] at this
      simp only [Option.some.injEq] at this
      rw [← this]; exact h2
  have hrlen : cap * z ≤ (rowAt w a.block a.off).length := by
    have hp := Nat.mul_pos (show 0 < cap by omega) hz0
    have h1 := hrow (cap * z - 1) (by omega)
    obtain ⟨u, h2, _⟩ := hin (cap * z - 1) (by omega)
    rw [h2] at h1
    have := (List.getElem?_eq_some_iff.1 h1).1
    omega
  -- the elements, chosen
  have hex : ∀ i, ∃ x : Option α, i < cap → ∃ x', x = some x' ∧ ∃ cs, w.cells? base (a.add (i * z)) z = some cs ∧ R (wh w) (cs.map (trV w)) x' := by
    intro i
    by_cases hi : i < cap
    · obtain ⟨cs, h1, _, x, hx⟩ := each i hi
      exact ⟨some x, fun _ => ⟨x, rfl, cs, h1, hx⟩⟩
    · exact ⟨none, fun h => absurd h hi⟩
  obtain ⟨f, hf⟩ := Classical.skolem.1 hex
  have hlist : ∀ n, n ≤ cap → ∃ l : List α, l.length = n ∧ ∀ i x, l[i]? = some x → f i = some x := by
    intro n
    induction n with
    | zero => intro _; exact ⟨[], rfl, fun i x h => by simp at h⟩
    | succ n ih =>
      intro hn
      obtain ⟨l, hl1, hl2⟩ := ih (by omega)
      obtain ⟨x', hx', _⟩ := hf n (by omega)
      refine ⟨l ++ [x'], by simp [hl1], fun i x hi => ?_⟩
      by_cases hlt : i < l.length
      · rw [List.getElem?_append_left hlt] at hi; exact hl2 i x hi
      · have : i = l.length := by
          have := (List.getElem?_eq_some_iff.1 hi).1
          simp at this; omega
        subst this
        simp at hi
        subst hi
        rw [hl1]; exact hx'
  obtain ⟨l, hl1, hl2⟩ := hlist len hl
  have hle : len ≤ 9223372036854775807 := by unfold maxLen at hm; omega
  refine ⟨_, rfl, by simp [okV, hplace], l, ?_⟩
  simp only [trV, hplace, cond_true]
  refine ⟨_, cap, by rw [hl1], ⟨by omega, by omega⟩, fun i x hi => ?_⟩
  have hil : i < len := by rw [← hl1]; exact (List.getElem?_eq_some_iff.1 hi).1
  obtain ⟨x', hx', cs, h1, h2⟩ := hf i (by omega)
  have := hl2 i x hi
  rw [hx'] at this
  simp only [Option.some.injEq] at this
  subst this
  obtain ⟨h3, h4⟩ := cells_get h1
  refine ⟨_, 0, _, none, true, cs.map (trV w), rfl, Nat.lt_succ_of_lt (code_lt w hblk (by omega)), wh_code w hblk (by omega), ?_, h2⟩
  have hiz : i * z + z ≤ cap * z := by
    have := Nat.mul_le_mul_right z (show i + 1 ≤ cap by omega)
    rw [Nat.add_mul, Nat.one_mul] at this
    exact this
  rw [cut_eq, if_pos (by omega)]
  congr 1
  refine List.ext_getElem? fun k => ?_
  rw [List.getElem?_take]
  by_cases hk : k < z
  · rw [if_pos hk, List.getElem?_drop, Nat.zero_add, hrow _ (by omega), List.getElem?_map]
    congr 1
    have h5 := h4 k hk
    rw [← h5]
    rw [add_add]
    unfold World.cell?
    rw [add_block, add_off, add_spot hspot, show w.heap[a.block]? = some (.cells C el fr) from hC]
    simp
  · rw [if_neg hk, List.getElem?_eq_none (by simp [h3]; omega)]
end
end Go.AM

namespace Go.AM
attribute [local instance] fnMaps
section
variable {H : Type} {enc : TypeId × Value → H} {P : Program} {w : World} {base : Nat} {held : Bool}
def Opens {α : Type} (enc : TypeId × Value → H) (P : Program) (w : World) (base : Nat) (held : Bool) (t : TypeId) (R : Heap → List Value → α → Prop) : Prop :=
  ∀ fuel cs y, DataW.trod enc P w base (fun _ => true) held fuel t cs = some y → (∀ v ∈ cs, okV w v = true) ∧ ∃ x, R (wh w) (cs.map (trV w)) x
theorem trod_field {t : TypeId} {fs : Array Field} (ht : P.underlying t = some (.struct fs)) {fuel : Nat} {cs : List Value} {y : DataW H × List MemPlace} (h : DataW.trod enc P w base (fun _ => true) held fuel t cs = some y) :
    cs.length = P.cellsOf t ∧ ∃ n, ∀ (i : Nat) (f : Field), fs.toList[i]? = some f → ∃ z, DataW.trod enc P w base (fun _ => true) held n f.type ((cs.drop f.offset).take (P.cellsOf f.type)) = some z := by
  obtain ⟨xs, n, _, _, hl, hx, hf⟩ := DataW.trod_struct ht h
  refine ⟨hl, n, fun i f hi => ?_⟩
  have hi : fs[i]? = some f := by simpa using hi
  have := hf i f hi
  have hi' := (Array.getElem?_eq_some_iff.1 hi).1
  exact ⟨xs[i]'(by omega), by rw [this, List.getElem?_eq_getElem]⟩
theorem block_of_has {r : Reach} {a : Addr} {e : TypeId} {n : Nat} (h : w.has P r base a e n) : (someBlock w).isSome = true := by
  obtain ⟨_, _, row, cells, h1, _⟩ := h
  refine someBlock_some w (b := a.block) ?_
  unfold World.shape? at h1
  unfold isBlock
  split at h1
  · rename_i hc; rw [hc]
  · cases h1
theorem block_of_cell {r : Reach} {t e : TypeId} (ht : P.underlying t = some (.slice e)) {a : Addr} {len cap : Nat} (h : Cell.okWide P w r base t (.slice (some a) len cap)) : (someBlock w).isSome = true := by
  unfold Cell.okWide at h
  rw [ht] at h
  unfold Cell.ok at h
  rw [ht] at h
  exact block_of_has h.2.2
theorem okV_rowed {v : Value} (h : okV w v = true) : ∀ a l c, trV w v = .slice a l c → a = none ∨ ∃ r cells g t, a = some ⟨r, 0, none⟩ ∧ r < (wh w).next ∧ (wh w).objs.get r = some (.row cells g t) := by
  intro a l c e
  match v, h, e with
  | .slice none l' c', _, e =>
    simp only [trV, Value.slice.injEq] at e
    exact .inl e.1.symm
  | .slice (some b) l' c', h, e =>
    simp only [trV] at e
    cases hp : placeOk w b with
    | true =>
      obtain ⟨h1, h2, h3⟩ := place_inv w hp
      rw [hp] at e
      simp only [cond_true, Value.slice.injEq] at e
      exact .inr ⟨_, _, _, _, e.1.symm, Nat.lt_succ_of_lt (code_lt w h2 h3), wh_code w h2 h3⟩
    | false =>
      rw [hp] at e
      simp only [cond_false, Value.slice.injEq] at e
      exact .inr ⟨_, _, _, _, e.1.symm, Nat.lt_succ_self _, wh_top w⟩
end
end Go.AM

namespace Go.AM
attribute [local instance] fnMaps
def cellK : Option IntKind → Value → Prop
  | some k, v => ∃ n, v = .int k n
  | none, v => ∃ b, v = .bool b
def rowK : List (Option IntKind) → List Value → Prop
  | [], [] => True
  | k :: ks, v :: cs => cellK k v ∧ rowK ks cs
  | _, _ => False
section
variable {H : Type} {enc : TypeId × Value → H} {P : Program} {w : World} {base : Nat} {held : Bool}
def RFlat (ks : List (Option IntKind)) : Heap → List Value → List Value → Prop := fun _ part x => part = x ∧ rowK ks x
theorem RFlat.mono (ks : List (Option IntKind)) : Mono (RFlat ks) := fun _ _ _ _ _ h => h
theorem opens_slice {α : Type} {R : Heap → List Value → α → Prop} {z : Nat} {t e : TypeId} (ht : P.underlying t = some (.slice e)) (hz : P.cellsOf e = z) (hz0 : 0 < z) (he : (someBlock w).isSome = true → Opens enc P w base held e R)
    {fuel : Nat} {v : Value} {y : DataW H × List MemPlace} (h : DataW.trod enc P w base (fun _ => true) held fuel t [v] = some y) (hb : ∀ a l c, v = .slice (some a) l c → (someBlock w).isSome = true) : okV w v = true ∧ ∃ l, SL R z (wh w) (trV w v) l := by
  obtain ⟨v', e, h1, h2⟩ := SL.ofTrod (R := R) (z := z) ht hz hz0 he h (fun a l c e => hb a l c (by simpa using e))
  simp only [List.cons.injEq, and_true] at e
  subst e
  exact ⟨h1, h2⟩
theorem param_slice {α : Type} {R : Heap → List Value → α → Prop} {z : Nat} {t e : TypeId} (ht : P.underlying t = some (.slice e)) (hz : P.cellsOf e = z) (hz0 : 0 < z) (he : (someBlock w).isSome = true → Opens enc P w base held e R)
    {r : Reach} {b0 : Nat} {v : Value} {d : DataW H} {ps : List MemPlace} (hval : Value.okWide P w r b0 t v) (hd : DataW.Trod enc P w base (fun _ => true) held t v d ps) : okV w v = true ∧ (∃ l, SL R z (wh w) (trV w v) l) ∧ ∀ a l c, trV w v = .slice a l c → a = none ∨ ∃ r cells g t, a = some ⟨r, 0, none⟩ ∧ r < (wh w).next ∧ (wh w).objs.get r = some (.row cells g t) := by
  obtain ⟨a, len, cap, rfl⟩ := WideShapes.okWide_slice ht hval
  obtain ⟨fuel, hd⟩ := hd
  have hv : Cell.okWide P w r b0 t (.slice a len cap) := by
    unfold Value.okWide at hval
    rw [ht] at hval
    exact hval
  obtain ⟨h1, h2⟩ := opens_slice ht hz hz0 he (v := .slice a len cap) hd (fun a' l c e => by rw [e] at hv; exact block_of_cell ht hv)
  exact ⟨h1, h2, okV_rowed h1⟩
end
end Go.AM

