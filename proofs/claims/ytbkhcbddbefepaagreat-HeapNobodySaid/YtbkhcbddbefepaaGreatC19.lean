/-
  Walks over letters of the functions that the law reaches.
-/
import Derived.Test.YtbkhcbddbefepaaGreatC18
namespace Go.AM
attribute [local instance] fnMaps
open Go Go.Proofs
set_option maxRecDepth 100000
set_option maxHeartbeats 1000000
set_option linter.unusedSimpArgs false
def keysL (s : St) : List Int := s.table.foldl addK (keysS s)
def ruleB (s : St) : Nat → Bool
  | 0 => decide s.cfg.Ok
  | 1 => decide ((s.words.length : Int) = s.cfg.words)
  | 2 => decide (topOk s)
  | 3 => decide ((smallR s).2 = 0)
  | 4 => (smallR s).1.all (smallB s)
  | 5 => largesB s
  | 6 => rrightB s.slots s.cfg.slots
  | 7 => (keysL s).all (fieldsK s.words (keysL s))
  | _ => s.slots.all (handB (keysL s))
def checkFrom (s : St) (i : Nat) : Nat → Int
  | 0 => 0
  | n + 1 => if ruleB s i then checkFrom s (i + 1) n else (i : Int) + 1
def checkN (s : St) : Int := checkFrom s 0 9
def kRules : List Value := [fnv 75, fnv 76, fnv 77, fnv 78, fnv 79, fnv 80, fnv 81, fnv 82, fnv 83]
structure StOk (s : St) : Prop where
  words : ∀ x ∈ s.words, x < 2 ^ 64
  slots : ∀ x ∈ s.slots, x.word < 2 ^ 64
  table : s.table.length ≤ 100000
structure Bas (H X : Heap) (lp rr : Nat) : Prop where
  ko : Ko H X
  lo : X.lo = H.lo
  l1 : H.next ≤ lp
  l2 : lp < X.next
  r1 : H.next ≤ rr
  r2 : rr < X.next
  row : X.objs.get rr = some (.row kRules none true)
  ne : rr ≠ lp
theorem Bas.same {H X Y : Heap} {lp rr : Nat} (b : Bas H X lp rr) (s : Same X Y) : Bas H Y lp rr :=
  ⟨b.ko.call s, s.lo.trans b.lo, b.l1, Nat.lt_of_lt_of_le b.l2 s.nxt, b.r1, Nat.lt_of_lt_of_le b.r2 s.nxt, s.keeps b.r2 b.row, b.ne⟩
theorem Bas.kob {H X Y : Heap} {lp rr k : Nat} (b : Bas H X lp rr) (s : KoB k X Y) (hl : Y.lo = X.lo) (hk : H.next ≤ k) (hr : rr ≠ k) : Bas H Y lp rr := by
  have h1 := b.ko; have h2 := h1.nxt; have h3 := s.nxt
  exact ⟨⟨by omega, fun x hx => (s.objs x (by omega) (by omega)).trans (h1.objs x hx), fun x hx => (s.grps x (by omega)).trans (h1.grps x hx)⟩, hl.trans b.lo, b.l1, by have := b.l2; omega, b.r1, by have := b.r2; omega, (s.objs rr b.r2 hr).trans b.row, b.ne⟩
theorem StS.ko {H X : Heap} {s : St} {w t f zl : Value} (h : StS H s w t f zl) (k : Ko H X) : StS X s w t f zl := ⟨h.w.ko RW.mono k, h.t.ko RSpan.mono k, h.f.ko RSpan.mono k, h.sl.ko RSlot.mono k⟩
theorem Lk.same {H X : Heap} {lp a rw m : Nat} {s : St} {w t f zl smv : Value} {sml ks : List Int} (h : Lk H lp s w t f zl a rw m smv sml ks) (hl : lp < H.next) (k : Same H X) : Lk X lp s w t f zl a rw m smv sml ks :=
  ⟨k.keeps hl h.row, h.ar.same k.ko, h.small.ko (fun _ _ _ _ _ h => h) k.ko, k.keeps h.lm h.map, Nat.lt_of_lt_of_le h.lm k.nxt⟩
def Stg (H : Heap) (lp : Nat) (s : St) (w t f zl : Value) (i : Nat) (X : Heap) : Prop :=
  if i ≤ 3 then X.objs.get lp = some (.row (lkC s w t f zl (.pointer none) (.slice none 0 0) (.map none)) none true)
  else ∃ a rw m smv, Lk X lp s w t f zl a rw m smv (smallR s).1 (if i ≤ 5 then keysS s else keysL s) ∧ H.next ≤ m
theorem keys_in (s : St) (hw : s.words.length ≤ 9223372036854775807) (hr : largesB s = true) : ∀ x ∈ keysL s, -9223372036854775808 ≤ x ∧ x ≤ 9223372036854775807 := by
  have hs : ∀ (l : List Int) (ks : List Int), (∀ x ∈ ks, -9223372036854775808 ≤ x ∧ x ≤ 9223372036854775807) → (∀ x ∈ l, -9223372036854775808 ≤ x ∧ x ≤ 9223372036854775807) → ∀ x ∈ l.foldl insK ks, -9223372036854775808 ≤ x ∧ x ≤ 9223372036854775807 := by
    intro l
    induction l with
    | nil => intro ks h _; exact h
    | cons y l ih =>
      intro ks h h2
      refine ih _ (fun x hx => ?_) fun x hx => h2 x (List.mem_cons_of_mem _ hx)
      unfold insK at hx
      split at hx
      · exact h x hx
      · rcases List.mem_append.1 hx with hx | hx
        · exact h x hx
        · rw [List.mem_singleton] at hx; subst hx; exact h2 _ (List.mem_cons_self ..)
  have e : keysL s = (s.table.map (·.at')).foldl insK (keysS s) := by unfold keysL addK; rw [List.foldl_map]
  rw [e]
  have hR : rightB s.cfg.big s.table s.free = true := by unfold largesB at hr; rw [Bool.and_eq_true] at hr; exact hr.1
  have hled : ledB s.cfg.big none s.table = true := by unfold rightB at hR; rw [Bool.and_eq_true] at hR; exact hR.1
  obtain ⟨hin, -, -⟩ := ledB_all hled
  refine hs _ _ (hs _ _ (fun x h => by cases h) fun x hx => ?_) fun x hx => ?_
  · have := small_in s x hx
    omega
  · obtain ⟨y, hy, rfl⟩ := List.mem_map.1 hx
    have := (hin y hy).1
    unfold May at this
    omega
theorem sl_len {α : Type} {R : Heap → List Value → α → Prop} {z : Nat} {H : Heap} {v : Value} {l : List α} (h : SLr R z H v l) : l.length ≤ 9223372036854775807 := by
  obtain ⟨⟨_, _, _, ⟨_, h⟩, _⟩, _⟩ := h
  exact h
theorem stage_step {H X : Heap} {lp rr : Nat} {s : St} {w t f zl : Value} (hlo : H.lo ≤ H.next) (hS0 : StS H s w t f zl) (hok : StOk s) (i : Nat) (hi : i < 9) (hg : Stg H lp s w t f zl i X) (b : Bas H X lp rr) (hall : ∀ k, k < i → ruleB s k = true) :
    CallA E (kRules.getD i .nilFunc) [ptr lp 0] X fun r X' => r = .bool (ruleB s i) ∧ Bas H X' lp rr ∧ (ruleB s i = true → Stg H lp s w t f zl (i + 1) X') := by
  have hS := hS0.ko b.ko
  have hn := b.ko.nxt
  have hX : X.lo ≤ X.next := by have := b.lo; omega
  have hwl := sl_len hS0.w
  have hlp : X.lo ≤ lp := by have := b.lo; have := b.l1; omega
  have old : i ≤ 3 → X.objs.get lp = some (.row (lkC s w t f zl (.pointer none) (.slice none 0 0) (.map none)) none true) := fun h => by unfold Stg at hg; rw [if_pos h] at hg; exact hg
  have new : ¬ i ≤ 3 → ∃ a rw m smv, Lk X lp s w t f zl a rw m smv (smallR s).1 (if i ≤ 5 then keysS s else keysL s) ∧ H.next ≤ m := fun h => by unfold Stg at hg; rw [if_neg h] at hg; exact hg
  have keep : ∀ (i : Nat) (X' : Heap), Same X X' → i ≠ 3 → i ≠ 5 → Stg H lp s w t f zl i X → Stg H lp s w t f zl (i + 1) X' := by
    intro i X' sX h3 h5 hg
    unfold Stg at hg ⊢
    by_cases h : i ≤ 3
    · rw [if_pos h] at hg
      rw [if_pos (by omega)]
      exact sX.keeps b.l2 hg
    · rw [if_neg h] at hg
      rw [if_neg (by omega)]
      obtain ⟨a, rw, m, smv, h1, h2⟩ := hg
      refine ⟨a, rw, m, smv, ?_, h2⟩
      have : (if i + 1 ≤ 5 then keysS s else keysL s) = (if i ≤ 5 then keysS s else keysL s) := by
        by_cases h6 : i + 1 ≤ 5
        · rw [if_pos h6, if_pos (by omega)]
        · rw [if_neg h6, if_neg (by omega)]
      rw [this]
      exact h1.same b.l2 sX
  match i, hi with
  | 0, _ =>
    refine (sconfig_ok X hX (old (by omega)) b.l2).mono ?_
    rintro r X' ⟨rfl, sX⟩
    exact ⟨rfl, b.same sX, fun _ => keep 0 X' sX (by omega) (by omega) hg⟩
  | 1, _ =>
    refine (swords_ok X hX (old (by omega)) b.l2 hS).mono ?_
    rintro r X' ⟨rfl, sX⟩
    exact ⟨rfl, b.same sX, fun _ => keep 1 X' sX (by omega) (by omega) hg⟩
  | 2, _ =>
    refine (stop'_ok X hX (old (by omega)) b.l2).mono ?_
    rintro r X' ⟨rfl, sX⟩
    exact ⟨rfl, b.same sX, fun _ => keep 2 X' sX (by omega) (by omega) hg⟩
  | 3, _ =>
    have c0 : s.cfg.Ok := of_decide_eq_true (hall 0 (by omega))
    have c1 : (s.words.length : Int) = s.cfg.words := of_decide_eq_true (hall 1 (by omega))
    have c2 : topOk s := of_decide_eq_true (hall 2 (by omega))
    refine (swalks_ok X hX (old (by omega)) b.l2 hlp rfl rfl hS c0 c1 hok.words c2).mono ?_
    rintro r X' ⟨rfl, sB, a, rw, m, smv, hk, h1, h2, h3⟩
    have sK : KoB lp X X' := ⟨sB.nxt, sB.objs, sB.grps⟩
    refine ⟨rfl, b.kob sK sB.lo b.l1 b.ne, fun _ => ?_⟩
    unfold Stg
    rw [if_neg (by omega)]
    exact ⟨a, rw, m, smv, hk, by omega⟩
  | 4, _ =>
    obtain ⟨a, rw, m, smv, hk, hm⟩ := new (by omega)
    refine (ssmalls_ok X hX hk b.l2 fun x hx => by have := small_in s x hx; omega).mono ?_
    rintro r X' ⟨rfl, sX⟩
    exact ⟨rfl, b.same sX, fun _ => keep 4 X' sX (by omega) (by omega) hg⟩
  | 5, _ =>
    obtain ⟨a, rw, m, smv, hk, hm⟩ := new (by omega)
    refine (slarges_ok X hX hk b.l2 hS (by have := b.lo; omega) hok.table).mono ?_
    rintro r X' ⟨rfl, sK, sl0, hks⟩
    have ne1 : rr ≠ m := fun e => by have h1 := b.row; have h2 := hk.map; rw [e, h2] at h1; cases h1
    have ne2 : lp ≠ m := fun e => by have h1 := hk.row; have h2 := hk.map; rw [e, h2] at h1; cases h1
    have ne3 : a ≠ m := fun e => by have h1 := hk.ar.box; have h2 := hk.map; rw [e, h2] at h1; cases h1
    have ne4 : rw ≠ m := fun e => by have h1 := hk.ar.row; have h2 := hk.map; rw [e, h2] at h1; cases h1
    refine ⟨rfl, b.kob sK sl0 hm ne1, fun hT => ?_⟩
    unfold Stg
    rw [if_neg (by omega)]
    refine ⟨a, rw, m, smv, ⟨(sK.objs lp b.l2 ne2).trans hk.row, hk.ar.kob sK ne3 ne4, ?_, hks hT, Nat.lt_of_lt_of_le hk.lm sK.nxt⟩, hm⟩
    obtain ⟨⟨sa', sc, rfl, hc, hl⟩, hr⟩ := hk.small
    refine ⟨⟨sa', sc, rfl, hc, fun i x hx => ?_⟩, fun a' n c e => ?_⟩
    · obtain ⟨r, o, cells, g, t', part, h1, h2, h3, h4, h5⟩ := hl i x hx
      have : r ≠ m := fun e => by have h2 := hk.map; rw [e, h2] at h3; cases h3
      exact ⟨r, o, cells, g, t', part, h1, Nat.lt_of_lt_of_le h2 sK.nxt, (sK.objs r h2 this).trans h3, h4, h5⟩
    · rcases hr a' n c e with h | ⟨r, cells, g, t', h1, h2, h3⟩
      · exact .inl h
      · have : r ≠ m := fun e => by have h2 := hk.map; rw [e, h2] at h3; cases h3
        exact .inr ⟨r, cells, g, t', h1, Nat.lt_of_lt_of_le h2 sK.nxt, (sK.objs r h2 this).trans h3⟩
  | 6, _ =>
    obtain ⟨a, rw, m, smv, hk, hm⟩ := new (by omega)
    refine (sslots_ok X hX hk.row b.l2 hS hok.slots).mono ?_
    rintro r X' ⟨rfl, sX⟩
    exact ⟨rfl, b.same sX, fun _ => keep 6 X' sX (by omega) (by omega) hg⟩
  | 7, _ =>
    obtain ⟨a, rw, m, smv, hk, hm⟩ := new (by omega)
    have hk : Lk X lp s w t f zl a rw m smv (smallR s).1 (keysL s) := hk
    refine (sfields_ok X hX hk b.l2 (keys_in s hwl (hall 5 (by omega)))).mono ?_
    rintro r X' ⟨rfl, sX⟩
    exact ⟨rfl, b.same sX, fun _ => keep 7 X' sX (by omega) (by omega) hg⟩
  | 8, _ =>
    obtain ⟨a, rw, m, smv, hk, hm⟩ := new (by omega)
    have hk : Lk X lp s w t f zl a rw m smv (smallR s).1 (keysL s) := hk
    refine (shandles_ok X hX hk b.l2 hS hok.slots).mono ?_
    rintro r X' ⟨rfl, sX⟩
    exact ⟨rfl, b.same sX, fun _ => keep 8 X' sX (by omega) (by omega) hg⟩
end Go.AM
