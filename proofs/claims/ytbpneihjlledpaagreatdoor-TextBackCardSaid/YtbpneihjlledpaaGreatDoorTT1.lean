/-
  The calls of the library that are told: each is so, by the shelf's contracts.
-/
import Derived.Test.YtbpneihjlledpaaGreatDoorTT0
import Derived.Test.YtbpneihjlledpaaGreatDoorShelf
set_option linter.unusedSimpArgs false
set_option linter.unusedVariables false
set_option linter.unusedSectionVars false
namespace Go.AM
open Go.Proofs Go.RowKit
theorem splitC_none {c : UInt8} : ∀ {l : List UInt8}, (∀ k : Nat, l[k]? ≠ some c) → splitC c l = [l]
  | [], _ => rfl
  | x :: l, h => by
    have hx : (x == c) = false := beq_eq_false_iff_ne.2 fun e => h 0 (by rw [e]; rfl)
    have ih := splitC_none (c := c) (l := l) fun k => by have := h (k + 1); simpa using this
    unfold splitC
    rw [hx, cond_false, ih]
theorem splitC_hit {c : UInt8} {b : List UInt8} : ∀ {a : List UInt8}, (∀ k : Nat, k < a.length → (a ++ c :: b)[k]? ≠ some c) → splitC c (a ++ c :: b) = a :: splitC c b
  | [], _ => by
    show splitC c (c :: b) = [] :: splitC c b
    conv => lhs; unfold splitC
    rw [show (c == c) = true from beq_iff_eq.2 rfl]; rfl
  | x :: a, h => by
    have hx : (x == c) = false := beq_eq_false_iff_ne.2 fun e => h 0 (by simp) (by rw [e]; rfl)
    have ih := splitC_hit (c := c) (b := b) (a := a) fun k hk => by have := h (k + 1) (by simpa using hk); simpa using this
    show splitC c (x :: (a ++ c :: b)) = _
    conv => lhs; unfold splitC
    rw [hx, cond_false, ih]
theorem split_one (c : UInt8) : ∀ (n : Nat) (l : List UInt8), l.length ≤ n → Lib.split l [c] = splitC c l := by
  intro n
  induction n with
  | zero =>
    intro l hl
    have : l = [] := List.eq_nil_of_length_eq_zero (by omega)
    subst this
    rfl
  | succ n ih =>
    intro l hl
    unfold Lib.split
    have hi := Lib.index_one l c
    by_cases hm : Lib.indexByte l c = -1
    · rw [Lib.count_miss (by rw [hi]; exact hm), splitC_none (Lib.indexByte_none hm)]; rfl
    · have hge := Lib.indexByte_ge l c
      obtain ⟨i, he⟩ : ∃ i : Nat, Lib.indexByte l c = i := ⟨(Lib.indexByte l c).toNat, by omega⟩
      obtain ⟨h1, h2⟩ := Lib.indexByte_some he
      have hlt : i < l.length := (List.getElem?_eq_some_iff.1 h1).1
      have hc : l[i] = c := (List.getElem?_eq_some_iff.1 h1).2
      have hsp : l = l.take i ++ c :: l.drop (i + 1) := by
        conv => lhs; rw [← List.take_append_drop i l, List.drop_eq_getElem_cons hlt, hc]
      rw [Lib.count_hit (i := i) (by simp) (by rw [hi]; exact he), Nat.add_comm 1]
      unfold Lib.splitK
      rw [hi, he, if_neg (by simp)]
      have e1 : ((i : Int)).toNat + [c].length = i + 1 := by simp
      have e2 : ((i : Int)).toNat + 0 = i := by simp
      rw [e1, e2]
      have ih' := ih (l.drop (i + 1)) (by rw [List.length_drop]; omega)
      unfold Lib.split at ih'
      rw [show [c].length = 1 from rfl, ih']
      conv => rhs; rw [hsp]
      rw [splitC_hit]
      intro k hk
      rw [← hsp]
      refine h2 k ?_
      rw [List.length_take] at hk; omega
theorem WGrown.of_below {w w' : World} (h : Below w.heap.size w w') : WGrown w w' := ⟨h.block, h.size, h.os, h.output⟩
theorem WGrown.refl (w : World) : WGrown w w := ⟨fun _ _ => rfl, Nat.le_refl _, rfl, rfl⟩
theorem WGrown.grow (w : World) (k : Nat) (os : Array Obj) : WGrown w (Sort.grow (w.drewN k) os) :=
  ⟨fun b hb => Sort.heap_grow_old (w.drewN k) os hb, by simp [Sort.grow], rfl, rfl⟩
theorem GL.tab {w : World} (h : GL w) : Lib.TabIs Tryz.prog w "internal/strconv.uint64pow10" .u64 Lib.pow10Tab := by
  obtain ⟨⟨e, fr, h1⟩, _⟩ := h
  unfold Lib.TabIs World.var?
  rw [show Tryz.prog.globalNamed "internal/strconv.uint64pow10" = some 1 from by kernel_rfl, Option.bind_some, h1]
theorem GL.syn {w : World} (h : GL w) : ∃ t p, w.var? Tryz.prog "strconv.ErrSyntax" = some #[.iface t p] := by
  obtain ⟨_, ⟨t, p, e, fr, h1⟩, _⟩ := h
  refine ⟨t, p, ?_⟩
  unfold World.var?
  rw [show Tryz.prog.globalNamed "strconv.ErrSyntax" = some 4 from by kernel_rfl, Option.bind_some, h1]
theorem GL.rng {w : World} (h : GL w) : ∃ t p, w.var? Tryz.prog "strconv.ErrRange" = some #[.iface t p] := by
  obtain ⟨_, _, ⟨t, p, e, fr, h1⟩, _⟩ := h
  refine ⟨t, p, ?_⟩
  unfold World.var?
  rw [show Tryz.prog.globalNamed "strconv.ErrRange" = some 5 from by kernel_rfl, Option.bind_some, h1]
theorem GL.max {w : World} (h : GL w) : ∃ m, w.cell? ⟨0, 0, none⟩ = some (.int .i64 m) := by
  obtain ⟨_, _, _, ⟨m, e, fr, h1⟩⟩ := h
  exact ⟨m, by simp [World.cell?, h1]⟩
theorem okI_iff {n : Int} (h : okI n = true) : -9223372036854775808 ≤ n ∧ n ≤ 9223372036854775807 := by
  simp only [okI, Bool.and_eq_true, leI_eq, decide_eq_true_eq] at h
  exact h
section
variable {m : Match}
theorem one_arg {v : Value} {args' : Array Value} (h : LRel m [v] args'.toList) : ∃ v', args' = #[v'] ∧ VRel m v v' := by
  obtain ⟨v', r, e, h1, h2⟩ := h.inv_cons
  have := h2.inv_nil; subst this
  exact ⟨v', by apply Array.ext'; rw [e], h1⟩
theorem two_args {v u : Value} {args' : Array Value} (h : LRel m [v, u] args'.toList) : ∃ v' u', args' = #[v', u'] ∧ VRel m v v' ∧ VRel m u u' := by
  obtain ⟨v', r, e, h1, h2⟩ := h.inv_cons
  obtain ⟨u', r', e', h3, h4⟩ := h2.inv_cons
  have := h4.inv_nil; subst this
  exact ⟨v', u', by apply Array.ext'; rw [e, e'], h1, h3⟩
theorem tup2 {a b a' b' : Value} (h : VRel m a a') (h' : VRel m b b') : VRel m (.tuple #[a, b]) (.tuple #[a', b']) := .tuple rfl (LRel.cons h (LRel.one h')).2
theorem strsOf_inv : ∀ {l : List Value} {xs : List ByteArray}, strsOf l = some xs → l = xs.map Value.string
  | [], xs, h => by simp only [strsOf, Option.some.injEq] at h; subst h; rfl
  | x :: l, xs, h => by
    unfold strsOf at h
    split at h
    · rename_i e; cases e
    · rename_i s l' e
      simp only [List.cons.injEq] at e
      obtain ⟨rfl, rfl⟩ := e
      simp only [Option.bind_eq_some_iff, Option.some.injEq] at h
      obtain ⟨r, h1, rfl⟩ := h
      rw [strsOf_inv h1]; rfl
    · cases h
end
section
variable [Maps] {B lo0 : Nat} {m : Match} {H : Heap} {w : World} {E : Env}
theorem tItoa_ok (hP : E.P = Tryz.prog) (hb : ∃ fn c, E.fn.get 40 = some fn ∧ fn.body = some c) : ToldOk E tItoa where
  body := hb
  low args H v H' hl h := by
    simp only [tItoa] at h
    split at h
    · obtain ⟨_, h2⟩ := beq_cond h; cases h2; exact .refl _
    · cases h
  sim B lo0 m H w args args' v H' h ha hR := by
    simp only [tItoa] at h
    split at h
    · obtain ⟨h1, h2⟩ := beq_cond h
      cases h2
      obtain ⟨v', rfl, hv⟩ := one_arg ha
      cases hv
      obtain ⟨h3, h4⟩ := okI_iff h1
      rw [hP]
      refine (Tryz.strconv_Itoa _ h3 h4 w hR.glo.2.tab).mono fun e w' ⟨he, k, os, hw⟩ => ⟨_, m, he, .grown hR (hw ▸ .grow w k os), ?_⟩
      rw [strV, itoaC_eq h3 h4]; exact .string _
    · cases h
theorem tForm_ok (hP : E.P = Tryz.prog) (hb : ∃ fn c, E.fn.get 56 = some fn ∧ fn.body = some c) : ToldOk E tForm where
  body := hb
  low args H v H' hl h := by
    simp only [tForm] at h
    split at h
    · obtain ⟨_, h2⟩ := beq_cond h; cases h2; exact .refl _
    · cases h
  sim B lo0 m H w args args' v H' h ha hR := by
    simp only [tForm] at h
    split at h
    · obtain ⟨h1, h2⟩ := beq_cond h
      cases h2
      obtain ⟨v', u', rfl, hv, hu⟩ := two_args ha
      cases hv; cases hu
      obtain ⟨h3, h4⟩ := okI_iff h1
      rw [hP]
      refine (Tryz.strconv_FormatInt_10 _ h3 h4 w hR.glo.2.tab).mono fun e w' ⟨he, k, os, hw⟩ => ⟨_, m, he, .grown hR (hw ▸ .grow w k os), ?_⟩
      rw [strV, itoaC_eq h3 h4]; exact .string _
    · cases h
theorem tCut_ok (hP : E.P = Tryz.prog) (hb : ∃ fn c, E.fn.get 83 = some fn ∧ fn.body = some c) : ToldOk E tCut where
  body := hb
  low args H v H' hl h := by
    simp only [tCut] at h
    split at h
    · cases h; exact .refl _
    · cases h
  sim B lo0 m H w args args' v H' h ha hR := by
    simp only [tCut] at h
    split at h
    · cases h
      obtain ⟨v', u', rfl, hv, hu⟩ := two_args ha
      cases hv; cases hu
      rw [hP]
      exact (Tryz.strings_CutPrefix _ _ w).mono fun e w' ⟨he, hw⟩ => ⟨_, m, he, (by rw [hw]; exact .refl hR), tup2 (.string _) (.bool _)⟩
    · cases h
theorem tAtoi_ok (hP : E.P = Tryz.prog) (hb : ∃ fn c, E.fn.get 82 = some fn ∧ fn.body = some c) : ToldOk E tAtoi where
  body := hb
  low args H v H' hl h := by
    simp only [tAtoi] at h
    split at h
    · obtain ⟨_, h2⟩ := beq_cond h
      simp only [Option.some.injEq, atoiV] at h2
      split at h2 <;> cases h2
      · exact .refl _
      · exact low_add hl _
      · exact low_add hl _
    · cases h
  sim B lo0 m H w args args' v H' h ha hR := by
    simp only [tAtoi] at h
    split at h
    · obtain ⟨h1, h2⟩ := beq_cond h
      have hs := Nat.le_of_ble_eq_true h1
      obtain ⟨v', rfl, hv⟩ := one_arg ha
      cases hv
      rw [hP]
      simp only [Option.some.injEq, atoiV] at h2
      split at h2 <;> rename_i he <;> cases h2
      · refine (Tryz.strconv_Atoi_ok _ (by omega) _ he w).mono fun e w' ⟨h3, h4⟩ => ⟨_, m, h3, ?_, tup2 (.int _ _) .nilIface⟩
        rcases h4 with rfl | ⟨t, rfl⟩
        · exact .refl hR
        · exact .grown hR (.of_below (Lib.bytesWorld_below _ _ _))
      · obtain ⟨t, p, hv⟩ := hR.glo.2.syn
        refine (Tryz.strconv_Atoi_syntax_var _ (by omega) he t p w hv).mono fun e w' ⟨N, h3, h4, h5, h6⟩ => ?_
        exact ⟨_, _, h3, .adopt hR (.of_below h6) h4 h5 (fun i v h => by simp at h) (Nat.zero_le _), tup2 (.int _ _) (.iface _ (VRel.ptr (upd_self _ _ _)))⟩
      · obtain ⟨t, p, hv⟩ := hR.glo.2.rng
        refine (Tryz.strconv_Atoi_range_var _ (by omega) he t p w hv).mono fun e w' ⟨N, h3, h4, h5, h6⟩ => ?_
        exact ⟨_, _, h3, .adopt hR (.of_below h6) h4 h5 (fun i v h => by simp at h) (Nat.zero_le _), tup2 (.int _ _) (.iface _ (VRel.ptr (upd_self _ _ _)))⟩
    · cases h
theorem tJoin_ok (hP : E.P = Tryz.prog) (hb : ∃ fn c, E.fn.get 22 = some fn ∧ fn.body = some c) : ToldOk E tJoin where
  body := hb
  low args H v H' hl h := by
    simp only [tJoin] at h
    split at h
    · obtain ⟨_, h2⟩ := bne_cond h
      simp only [Option.bind_eq_some_iff] at h2
      obtain ⟨l, _, xs, _, h3⟩ := h2
      obtain ⟨_, h4⟩ := beq_cond h3; cases h4; exact .refl _
    · cases h
  sim B lo0 m H w args args' v H' h ha hR := by
    simp only [tJoin] at h
    split at h
    · rename_i r o n c sep
      obtain ⟨h1, h2⟩ := bne_cond h
      simp only [Option.bind_eq_some_iff] at h2
      obtain ⟨l, h3, xs, h4, h5⟩ := h2
      obtain ⟨h6, h7⟩ := beq_cond h5
      cases h7
      simp only [Bool.not_eq_false', Bool.and_eq_true] at h1
      have hn := Nat.le_of_ble_eq_true h1.1
      have hn2 := Nat.le_of_ble_eq_true h1.2
      have hlen := Nat.le_of_ble_eq_true h6
      have hl := cellsOf_length h3
      rw [strsOf_inv h4] at hl h3
      have hx : xs.length = n := by simpa using hl
      obtain ⟨v', u', rfl, hv, hu⟩ := two_args ha
      cases hu
      rw [hP]
      rw [joinC_eq] at hlen
      rw [joinC_eq]
      have none : ∀ a c', xs = [] → n = 0 → v' = .slice a 0 c' → Calls Tryz.prog 22 #[v', .string sep] w fun e w' => ∃ v' m', e = .returned v' ∧ Good B lo0 m H w m' H w' ∧ VRel m' (strV (Lib.join (xs.map (·.data.toList)) sep.data.toList)) v' := fun a c' hx0 hn0 e => by
        subst hx0; subst e
        exact (Tryz.strings_Join_none a c' sep w).mono fun e w' ⟨he, hw⟩ => ⟨_, m, he, (by rw [hw]; exact .refl hR), .string _⟩
      cases hv with
      | slice hm hc he hi =>
        rename_i c' p
        have hcells : ∀ (j : Nat) x, xs[j]? = some x → w.cell? ⟨p.blk, p.base + o + j, Option.none⟩ = some (.string x) := fun j x hj => by
          simp only [cellsOf] at h3
          split at h3
          · rename_i cells grp tip hr
            obtain ⟨h8, h9⟩ := cut_inv h3
            obtain ⟨⟨C, e, fr, c1, _, _, c4, c5⟩, _⟩ := hR.obj r p _ hm hr
            have h10 : (xs.map Value.string)[j]? = some (.string x) := by rw [List.getElem?_map, hj]; rfl
            rw [h9, List.getElem?_take] at h10
            split at h10
            · rw [List.getElem?_drop] at h10
              obtain ⟨v'', d1, d2⟩ := c5 (o + j) _ h10
              cases d2
              rw [show p.base + o + j = p.base + (o + j) by omega, cell?_at c1, d1]
            · cases h10
          · cases h3
        have hblk := (hR.dom r p hm).2.1
        subst hx
        refine (Tryz.strings_Join p.blk (p.base + o) c' xs sep w hcells hblk (by omega) (by omega) (by omega)).mono fun e w' ⟨he, hw⟩ => ⟨_, m, he, .grown hR (.of_below hw), .string _⟩
      | empty a hm he => exact none _ _ (List.eq_nil_of_length_eq_zero hx) rfl rfl
    · cases h
theorem tSplit_ok (hP : E.P = Tryz.prog) (hb : ∃ fn c, E.fn.get 31 = some fn ∧ fn.body = some c) : ToldOk E tSplit where
  body := hb
  low args H v H' hl h := by
    simp only [tSplit] at h
    split at h
    · split at h
      · obtain ⟨_, h2⟩ := beq_cond h
        cases h2; exact low_add hl _
      · cases h
    · cases h
  sim B lo0 m H w args args' v H' h ha hR := by
    simp only [tSplit] at h
    split at h
    · rename_i s sep
      split at h
      · rename_i c hc
        obtain ⟨h1, h2⟩ := beq_cond h
        cases h2
        have hs := Nat.le_of_ble_eq_true h1
        obtain ⟨v', u', rfl, hv, hu⟩ := two_args ha
        cases hv; cases hu
        rw [hP]
        obtain ⟨mx, hmx⟩ := hR.glo.2.max
        have h1' : 1 ≤ sep.size := by rw [Lib.size_eq, hc]; simp
        have hd : (Lib.splitB sep 0 (Lib.countB s sep) s).map (·.data.toList) = splitC c s.data.toList := by
          rw [Lib.splitB_data, ← split_one c _ _ (Nat.le_refl _)]
          unfold Lib.split
          rw [hc]
          congr 1
          show Lib.count _ _ = _
          rw [hc]
        have hk : (splitC c s.data.toList).length = Lib.countB s sep + 1 := by rw [← hd, List.length_map, Lib.splitB_all sep h1' 0 _ s rfl]
        have hvs : (Lib.splitB sep 0 (Lib.countB s sep) s).map Value.string = (splitC c s.data.toList).map strV := by
          rw [← hd, List.map_map]
          exact List.map_congr_left fun x _ => rfl
        refine (Tryz.strings_Split s sep mx w (by omega) hmx h1').mono fun e w' ⟨he, hw⟩ => ?_
        rw [hvs] at hw
        refine ⟨_, _, he, .newRow (C := ((splitC c s.data.toList).map strV).toArray) hR 9 (by rw [hw]; rfl) (by rw [hw]; exact ⟨rfl, rfl⟩) (.refl_of fun v hv => ?_), ?_⟩
        · obtain ⟨l, _, rfl⟩ := List.mem_map.1 hv
          exact .string _
        · rw [hk]
          exact VRel.slice (o := 0) (upd_self _ _ _) (Nat.le_refl _) (fun _ => rfl) (fun e => by cases e)
      · cases h
    · cases h
theorem tolds_ok (hP : E.P = Tryz.prog) (hb : ∀ g ∈ [82, 40, 56, 83, 22, 31], ∃ fn c, E.fn.get g = some fn ∧ fn.body = some c) : ∀ x ∈ tolds, ToldOk E x := by
  intro x hx
  simp only [tolds, List.mem_cons, List.not_mem_nil, or_false] at hx
  rcases hx with rfl | rfl | rfl | rfl | rfl | rfl
  · exact tAtoi_ok hP (hb _ (by simp))
  · exact tItoa_ok hP (hb _ (by simp))
  · exact tForm_ok hP (hb _ (by simp))
  · exact tCut_ok hP (hb _ (by simp))
  · exact tJoin_ok hP (hb _ (by simp))
  · exact tSplit_ok hP (hb _ (by simp))
end
end Go.AM
