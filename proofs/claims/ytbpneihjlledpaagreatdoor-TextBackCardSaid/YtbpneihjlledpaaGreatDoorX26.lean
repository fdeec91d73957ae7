/-
  Walks over letters of the functions that the law reaches.
-/
import Derived.Test.YtbpneihjlledpaaGreatDoorX25
set_option linter.unusedVariables false
set_option linter.unusedSectionVars false
namespace Go.AM
variable [Orc13]
attribute [local instance] fnMaps
open Go Go.Proofs
set_option maxRecDepth 100000
set_option maxHeartbeats 4000000
set_option linter.unusedSimpArgs false
theorem hexG_hexT (w : Nat) : ∀ k a, hexG a (hexT k w) = a * 16 ^ k + w % 16 ^ k
  | 0, a => by
    show a = _
    rw [Nat.pow_zero, Nat.mod_one]; omega
  | k + 1, a => by
    show hexG (16 * a + hv (hexD (wd k w % 16))) (hexT k w) = _
    have h16 : wd k w % 16 < 16 := Nat.mod_lt _ (by decide)
    have hD : hv (hexD (wd k w % 16)) = wd k w % 16 := hv_D ⟨_, h16⟩
    rw [hD, hexG_hexT w k, wd_pow, show 2 ^ (4 * k) = 16 ^ k by rw [Nat.pow_mul]]
    show (16 * a + w / 16 ^ k % 16) * 16 ^ k + w % 16 ^ k = _
    rw [Nat.pow_succ, Nat.mod_mul, Nat.add_mul, show 16 * a * 16 ^ k = a * (16 ^ k * 16) by rw [Nat.mul_comm 16 a, Nat.mul_assoc, Nat.mul_comm 16], Nat.mul_comm (w / 16 ^ k % 16)]
    omega
theorem hok_T (w : Nat) : ∀ k, (hexT k w).all hok = true
  | 0 => rfl
  | k + 1 => by
    have h16 : wd k w % 16 < 16 := Nat.mod_lt _ (by decide)
    have h := hv_D ⟨_, h16⟩
    unfold hexT
    rw [List.all_cons, hok_T w k, Bool.and_true]
    exact decide_eq_true (by rw [h]; exact h16)
theorem readW_T {w : Nat} (h : w < 2 ^ 64) : readW (hexT 16 w) = (w, 0) := by
  unfold readW
  rw [if_pos ⟨hexT_len 16 w, hok_T w 16⟩, hexG_hexT, Nat.zero_mul, Nat.zero_add, Nat.mod_eq_of_lt (by omega)]
theorem hexT_app : ∀ (l : List UInt8) (a : Nat), l.all hok = true → hexT l.length (hexG a l) = l
  | [], _, _ => rfl
  | c :: l, a, h => by
    rw [List.all_cons, Bool.and_eq_true] at h
    have h0 : hv c < 16 := of_decide_eq_true h.1
    have ih := hexT_app l (16 * a + hv c) h.2
    show hexD (wd l.length (hexG (16 * a + hv c) l) % 16) :: hexT l.length (hexG (16 * a + hv c) l) = _
    rw [ih]
    congr 1
    have hg : hexG (16 * a + hv c) l = (16 * a + hv c) * 16 ^ l.length + hexG 0 l := hexG_lin l _
    have hlt := hexG_lt l 0 0 h.2 (by decide)
    rw [Nat.zero_add] at hlt
    rw [wd_pow, show 2 ^ (4 * l.length) = 16 ^ l.length by rw [Nat.pow_mul], hg, Nat.add_comm, Nat.add_mul_div_right _ _ (Nat.pow_pos (by decide)), Nat.div_eq_of_lt hlt]
    exact (hexD_iff (Nat.mod_lt _ (by decide)) c).2 (by omega)
where
  hexG_lin : ∀ (l : List UInt8) (a : Nat), hexG a l = a * 16 ^ l.length + hexG 0 l
  | [], a => by show a = a * 1 + 0; omega
  | c :: l, a => by
    show hexG (16 * a + hv c) l = a * 16 ^ (l.length + 1) + hexG (16 * 0 + hv c) l
    rw [hexG_lin l (16 * a + hv c), hexG_lin l (16 * 0 + hv c), Nat.pow_succ, Nat.add_mul, Nat.add_mul, show a * (16 ^ l.length * 16) = 16 * a * 16 ^ l.length by rw [Nat.mul_comm 16 a, Nat.mul_assoc, Nat.mul_comm 16]]
    omega
theorem hex_back {l : List UInt8} (h : (readW l).2 = 0) : hexT 16 (readW l).1 = l := by
  unfold readW at h ⊢
  split
  · rename_i hc
    have := hexT_app l 0 hc.2
    rw [hc.1] at this
    exact this
  · rename_i hc
    rw [if_neg hc] at h
    exact absurd h (by decide)
def put (x y : TOp) (c : Int) : TOp := if c = 112 then { x with p := y.p } else if c = 119 then { x with w := y.w } else if c = 118 then { x with vk := y.vk, vx := y.vx } else setF x c (numF y c)
theorem num_set (x : TOp) (c n : Int) : numF (setF x c n) c = n := by
  unfold numF setF
  repeat' split
  all_goals first | rfl | contradiction
theorem read_put (x : TOp) (c : Int) (p : List UInt8) (h : readB c p = true) : readO x c p = put x (readO zO c p) c ∧ fieldT (readO zO c p) c = (p, true) := by
  unfold readB at h
  unfold readO put fieldT
  by_cases h1 : c = 112
  · subst h1
    rw [if_pos rfl] at h
    have hp := of_decide_eq_true h
    have he : Lib.itoa (atoiN p) = p := by
      have := hp.1
      simp only [numP, Bool.and_eq_true, decide_eq_true_eq] at this
      exact this.2
    rw [if_pos rfl, if_pos rfl, if_pos rfl, if_pos rfl, if_pos hp, if_pos hp]
    exact ⟨rfl, by rw [he]⟩
  by_cases h2 : c = 119
  · subst h2
    rw [if_neg (by decide), if_pos rfl] at h
    have hp : (readW p).2 = 0 := of_decide_eq_true h
    refine ⟨rfl, ?_⟩
    rw [if_neg (by decide), if_pos rfl, if_neg (by decide), if_pos rfl]
    show (hexT 16 (readW p).1, true) = _
    rw [hex_back hp]
  by_cases h3 : c = 118
  · subst h3
    rw [if_neg (by decide), if_neg (by decide), if_pos rfl] at h
    refine ⟨rfl, ?_⟩
    rw [if_neg (by decide), if_neg (by decide), if_pos rfl, if_neg (by decide), if_neg (by decide), if_pos rfl]
    show (textV (valK p) (valX p), !decide (textV (valK p) (valX p) = [63])) = _
    unfold pvalB at h
    simp only [Bool.and_eq_true, decide_eq_true_eq] at h
    rw [h.2, h.1]
  · rw [if_neg h1, if_neg h2, if_neg h3] at h ⊢
    rw [if_neg h1, if_neg h2, if_neg h3, if_pos h, if_neg h1, if_neg h2, if_neg h3, if_neg h1, if_neg h2, if_neg h3, if_pos h, num_set]
    refine ⟨rfl, ?_⟩
    simp only [numP, Bool.and_eq_true, decide_eq_true_eq] at h
    rw [h.2]
theorem may_text {k x : Int} (h : textV k x ≠ [63]) : mayV k x := by
  by_cases hm : mayV k x
  · exact hm
  · exact absurd (if_neg hm) h
theorem itoa_head {x : Int} (h0 : -9223372036854775808 ≤ x) (h1 : x ≤ 9223372036854775807) : (Lib.itoa x).head? ≠ some 64 ∧ Lib.itoa x ≠ [110, 105, 108] ∧ 32 ∉ Lib.itoa x ∧ 10 ∉ Lib.itoa x := by
  obtain ⟨d1, _, d3⟩ := dec_digs _ x.natAbs (Nat.le_refl _)
  have hd : ∀ c ∈ Lib.decDigits x.natAbs, 48 ≤ c.toNat ∧ c.toNat ≤ 57 := fun c hc => dig_iff.1 (List.all_eq_true.1 d1 c hc)
  have hm : ∀ c ∈ Lib.itoa x, c = 45 ∨ 48 ≤ c.toNat ∧ c.toNat ≤ 57 := by
    intro c hc
    unfold Lib.itoa at hc
    split at hc
    · rcases List.mem_cons.1 hc with h | h
      · exact .inl h
      · exact .inr (hd c h)
    · rename_i hx
      rw [show x.toNat = x.natAbs by omega] at hc
      exact .inr (hd c hc)
  have no : ∀ c : UInt8, c ≠ 45 → ¬ (48 ≤ c.toNat ∧ c.toNat ≤ 57) → c ∉ Lib.itoa x := fun c h1 h2 hc => (hm c hc).elim h1 h2
  refine ⟨fun h => no 64 (by decide) (by decide) (List.mem_of_mem_head? h), fun h => no 110 (by decide) (by decide) (by rw [h]; exact List.mem_cons_self ..), no 32 (by decide) (by decide), no 10 (by decide) (by decide)⟩
theorem val_text {k x : Int} (h : mayV k x) : valK (textV k x) = k ∧ valX (textV k x) = x := by
  obtain ⟨h0, h1⟩ := may_in h
  obtain ⟨a1, a2, _⟩ := itoa_head h0 h1
  obtain ⟨b1, b2⟩ := itoaV h0 h1
  rcases may_k h with rfl | rfl | rfl
  · have e : textV 0 x = [110, 105, 108] := (if_pos h).trans (if_pos rfl)
    have hx : x = 0 := by unfold mayV at h; omega
    rw [e, hx]
    exact ⟨by decide, by decide⟩
  · have e : textV 1 x = Lib.itoa x := (if_pos h).trans ((if_neg (by decide)).trans (if_pos rfl))
    have c1 : cutT (Lib.itoa x) = Lib.itoa x := if_neg a1
    rw [e]
    unfold valK valX
    rw [if_neg a2, if_neg a2, c1, b1, b2, if_pos rfl, if_neg a1]
    exact ⟨rfl, rfl⟩
  · have e : textV 2 x = 64 :: Lib.itoa x := (if_pos h).trans ((if_neg (by decide)).trans (if_neg (by decide)))
    have c1 : cutT (64 :: Lib.itoa x) = Lib.itoa x := if_pos rfl
    have a3 : (64 :: Lib.itoa x) ≠ [110, 105, 108] := fun h => by cases h
    rw [e]
    unfold valK valX
    rw [if_neg a3, if_neg a3, c1, b1, b2, if_pos rfl]
    exact ⟨if_pos rfl, rfl⟩
theorem put_read {o : TOp} (ho : OpOk o) (x : TOp) (c : Int) (h : (fieldT o c).2 = true) : readB c (fieldT o c).1 = true ∧ readO x c (fieldT o c).1 = put x o c := by
  unfold fieldT at h ⊢
  unfold readB readO put
  by_cases h1 : c = 112
  · subst h1
    obtain ⟨p0, p1⟩ := ho.p
    obtain ⟨b1, b2⟩ := itoaV (v := o.p) (by omega) (by omega)
    rw [if_pos rfl, if_pos rfl, if_pos rfl, if_pos rfl]
    have hc : numP (Lib.itoa o.p) = true ∧ 0 ≤ atoiN (Lib.itoa o.p) ∧ atoiN (Lib.itoa o.p) ≤ 255 := ⟨b1, by rw [b2]; exact p0, by rw [b2]; exact p1⟩
    exact ⟨decide_eq_true hc, by rw [if_pos hc, b2]⟩
  by_cases h2 : c = 119
  · subst h2
    have e := readW_T ho.w
    rw [if_neg (by decide), if_pos rfl, if_neg (by decide), if_pos rfl, if_neg (by decide), if_pos rfl, if_neg (by decide), if_pos rfl]
    show decide ((readW (hexT 16 o.w)).2 = 0) = true ∧ { x with w := (readW (hexT 16 o.w)).1 } = _
    rw [e]
    exact ⟨rfl, rfl⟩
  by_cases h3 : c = 118
  · subst h3
    rw [if_neg (by decide), if_neg (by decide), if_pos rfl] at h
    have hn : textV o.vk o.vx ≠ [63] := by simpa using h
    have hm := may_text hn
    obtain ⟨e1, e2⟩ := val_text hm
    rw [if_neg (by decide), if_neg (by decide), if_pos rfl, if_neg (by decide), if_neg (by decide), if_pos rfl, if_neg (by decide), if_neg (by decide), if_pos rfl, if_neg (by decide), if_neg (by decide), if_pos rfl]
    show pvalB (textV o.vk o.vx) = true ∧ { x with vk := valK (textV o.vk o.vx), vx := valX (textV o.vk o.vx) } = _
    unfold pvalB
    rw [e1, e2, decide_eq_true rfl, decide_eq_false hn]
    exact ⟨rfl, rfl⟩
  · obtain ⟨n0, n1⟩ := num_in ho c
    obtain ⟨b1, b2⟩ := itoaV n0 n1
    rw [if_neg h1, if_neg h2, if_neg h3, if_neg h1, if_neg h2, if_neg h3, if_neg h1, if_neg h2, if_neg h3, if_neg h1, if_neg h2, if_neg h3]
    show numP (Lib.itoa (numF o c)) = true ∧ (if numP (Lib.itoa (numF o c)) = true then setF x c (atoiN (Lib.itoa (numF o c))) else x) = _
    rw [b1, b2, if_pos rfl]
    exact ⟨rfl, rfl⟩
def putAll : TOp → List UInt8 → List TOp → TOp
  | x, c :: u, y :: ys => putAll (put x y c.toNat) u ys
  | x, _, _ => x
theorem putAll_cons (x y : TOp) (c : UInt8) (u : List UInt8) (ys : List TOp) : putAll x (c :: u) (y :: ys) = putAll (put x y c.toNat) u ys := rfl
theorem readAll_put {o : TOp} (ho : OpOk o) : ∀ (u : List UInt8) (x : TOp), lineOk o u = true → readAll x u (lineW o u) = some (putAll x u (u.map fun _ => o))
  | [], _, _ => by unfold readAll; rfl
  | c :: u, x, h => by
    unfold lineOk at h
    rw [List.all_cons, Bool.and_eq_true] at h
    obtain ⟨e1, e2⟩ := put_read ho x c.toNat h.1
    show readAll x (c :: u) ((fieldT o c.toNat).1 :: lineW o u) = _
    unfold readAll
    rw [e1, if_pos rfl, e2, List.map_cons, putAll_cons]
    exact readAll_put ho u _ h.2
theorem put_readAll (u : List UInt8) : ∀ (ps : List (List UInt8)) (x o : TOp), ps.length = u.length → readAll x u ps = some o → ∃ ys : List TOp, ys.length = u.length ∧ o = putAll x u ys ∧ ps = List.zipWith (fun y c => (fieldT y (UInt8.toNat c)).1) ys u ∧ List.zipWith (fun y c => (fieldT y (UInt8.toNat c)).2) ys u = u.map fun _ => true := by
  induction u with
  | nil =>
    intro ps x o hl h
    have hp : ps = [] := List.eq_nil_of_length_eq_zero hl
    subst hp
    unfold readAll at h
    have hx : x = o := Option.some.inj h
    subst hx
    exact ⟨[], rfl, rfl, rfl, rfl⟩
  | cons c u ih =>
    intro ps x o hl h
    cases ps with
    | nil => exact absurd hl (Nat.succ_ne_zero _).symm
    | cons p ps =>
      have hl2 : ps.length = u.length := Nat.succ.inj hl
      unfold readAll at h
      by_cases hb : readB c.toNat p = true
      · obtain ⟨e1, e2⟩ := read_put x c.toNat p hb
        rw [if_pos hb, e1] at h
        obtain ⟨ys, a1, a2, a3, a4⟩ := ih ps _ o hl2 h
        refine ⟨readO zO c.toNat p :: ys, congrArg Nat.succ a1, a2.trans (putAll_cons _ _ _ _ _).symm, ?_, ?_⟩
        · rw [List.zipWith_cons_cons, e2, ← a3]
        · rw [List.zipWith_cons_cons, e2, a4, List.map_cons]
      · rw [if_neg hb] at h
        cases h
theorem name_of (d : Int) (h : nameL d ≠ []) : ofS (B (nameL d)) = d ∧ d ≠ 0 ∧ 32 ∉ nameL d ∧ 10 ∉ nameL d ∧ (nameL d).head? ≠ some 35 := by
  revert h
  refine pat_all (fun d => nameL d ≠ [] → ofS (B (nameL d)) = d ∧ d ≠ 0 ∧ 32 ∉ nameL d ∧ 10 ∉ nameL d ∧ (nameL d).head? ≠ some 35) (by decide +kernel) (fun d h _ h2 => ?_) d
  exact absurd (by unfold nameL; rw [h]) h2
theorem of_name (p : List UInt8) (h : ofS (B p) ≠ 0) : nameL (ofS (B p)) = p ∧ 1 ≤ ofS (B p) ∧ ofS (B p) ≤ 10 := by
  have key : ∀ (n i : Nat), i + n ≤ 10 → ofFrom (B p) i n ≠ 0 → nameL (ofFrom (B p) i n) = p ∧ 1 ≤ ofFrom (B p) i n ∧ ofFrom (B p) i n ≤ 10 := by
    intro n
    induction n with
    | zero => intro i _ h; exact absurd rfl h
    | succ n ih =>
      intro i hi h
      unfold ofFrom at h ⊢
      by_cases he : eqBytes (nameB ((i : Int) + 1)) (B p) = true
      · rw [if_pos he]
        rw [nameB_B, B_eq] at he
        exact ⟨of_decide_eq_true he, by omega, by omega⟩
      · rw [if_neg he] at h ⊢
        exact ih (i + 1) (by omega) h
  exact key 10 0 (by omega) h
theorem len1 {ys : List TOp} (h : ys.length = 1) : ∃ a, ys = [a] := by
  match ys, h with
  | [a], _ => exact ⟨a, rfl⟩
theorem len2 {ys : List TOp} (h : ys.length = 2) : ∃ a b, ys = [a, b] := by
  match ys, h with
  | [a, b], _ => exact ⟨a, b, rfl⟩
theorem len3 {ys : List TOp} (h : ys.length = 3) : ∃ a b c, ys = [a, b, c] := by
  match ys, h with
  | [a, b, c], _ => exact ⟨a, b, c, rfl⟩
theorem len4 {ys : List TOp} (h : ys.length = 4) : ∃ a b c d, ys = [a, b, c, d] := by
  match ys, h with
  | [a, b, c, d], _ => exact ⟨a, b, c, d, rfl⟩
theorem plain_put (d : Int) (hd : nameL d ≠ []) (o : TOp) (ho : o.d = d) (hp : plainO o = o) : putAll (oD d) (usesL d) ((usesL d).map fun _ => o) = o := by
  obtain ⟨od, oh, og, oi, ovk, ovx, ow, ok, of, or', op⟩ := o
  subst ho
  dsimp only at hd hp ⊢
  rcases in10 od with h | h | h | h | h | h | h | h | h | h | h
  all_goals first
    | (exfalso; exact hd (by unfold nameL; rw [(out_name h).1]))
    | (subst h; exact Eq.trans rfl hp)
theorem put_plain (d : Int) (hd : nameL d ≠ []) (ys : List TOp) (hl : ys.length = (usesL d).length) : (putAll (oD d) (usesL d) ys).d = d ∧ plainO (putAll (oD d) (usesL d) ys) = putAll (oD d) (usesL d) ys ∧ lineW (putAll (oD d) (usesL d) ys) (usesL d) = List.zipWith (fun y c => (fieldT y (UInt8.toNat c)).1) ys (usesL d) ∧ (usesL d).map (fun c => (fieldT (putAll (oD d) (usesL d) ys) c.toNat).2) = List.zipWith (fun y c => (fieldT y (UInt8.toNat c)).2) ys (usesL d) := by
  rcases in10 d with h | h | h | h | h | h | h | h | h | h | h
  all_goals first
    | (exfalso; exact hd (by unfold nameL; rw [(out_name h).1]))
    | (subst h
       first
         | (obtain ⟨y1, rfl⟩ := len1 hl; exact ⟨rfl, rfl, rfl, rfl⟩)
         | (obtain ⟨y1, y2, rfl⟩ := len2 hl; exact ⟨rfl, rfl, rfl, rfl⟩)
         | (obtain ⟨y1, y2, y3, rfl⟩ := len3 hl; exact ⟨rfl, rfl, rfl, rfl⟩)
         | (obtain ⟨y1, y2, y3, y4, rfl⟩ := len4 hl; exact ⟨rfl, rfl, rfl, rfl⟩))
theorem join_cons2 (c : UInt8) (x y : List UInt8) (l : List (List UInt8)) : joinC [c] (x :: y :: l) = x ++ c :: joinC [c] (y :: l) := by
  unfold joinC
  simp
theorem join_split (c : UInt8) : ∀ l : List UInt8, joinC [c] (splitC c l) = l
  | [] => rfl
  | x :: l => by
    have ih := join_split c l
    have hp := splitC_pos c l
    unfold splitC
    cases hs : splitC c l with
    | nil => rw [hs] at hp; exact absurd hp (by decide)
    | cons p r =>
      rw [hs] at ih
      cases hx : x == c with
      | true =>
        rw [cond_true, join_cons2, ih]
        rw [eq_of_beq hx]; rfl
      | false =>
        rw [cond_false]
        show joinC [c] ((x :: p) :: r) = _
        rw [← ih]
        cases r with
        | nil => rfl
        | cons q r => rw [join_cons2, join_cons2]; rfl
theorem split_join (c : UInt8) : ∀ (l : List (List UInt8)) (x : List UInt8), c ∉ x → (∀ p ∈ l, c ∉ p) → splitC c (joinC [c] (x :: l)) = x :: l
  | [], x, hx, _ => by
    show splitC c (x ++ []) = _
    rw [List.append_nil, splitC_no c x hx]
  | y :: l, x, hx, h => by
    rw [join_cons2, splitC_at c _ x hx, split_join c l y (h y (List.mem_cons_self ..)) fun p hp => h p (List.mem_cons_of_mem _ hp)]
theorem hexT_no : ∀ (k w : Nat), 32 ∉ hexT k w ∧ 10 ∉ hexT k w := fun k w => by
  have h := List.all_eq_true.1 (hok_T w k)
  have h32 : hok 32 = false := by decide
  have h10 : hok 10 = false := by decide
  refine ⟨fun hm => ?_, fun hm => ?_⟩
  · rw [h 32 hm] at h32; cases h32
  · rw [h 10 hm] at h10; cases h10
theorem field_no {o : TOp} (ho : OpOk o) (c : Int) : 32 ∉ (fieldT o c).1 ∧ 10 ∉ (fieldT o c).1 := by
  have hi : ∀ x, i64 x → 32 ∉ Lib.itoa x ∧ 10 ∉ Lib.itoa x := fun x hx => (itoa_head hx.1 hx.2).2.2
  unfold fieldT
  split
  · have := ho.p; exact hi o.p ⟨by omega, by omega⟩
  split
  · exact hexT_no 16 o.w
  split
  · have h2 := hi o.vx ho.vx
    unfold textV
    dsimp only
    repeat' split
    · exact ⟨by decide, by decide⟩
    · exact h2
    · exact ⟨fun h => (List.mem_cons.1 h).elim (fun e => absurd e (by decide)) h2.1, fun h => (List.mem_cons.1 h).elim (fun e => absurd e (by decide)) h2.2⟩
    · exact ⟨by decide, by decide⟩
  · exact hi _ (num_in ho c)
theorem lineW_no {o : TOp} (ho : OpOk o) (u : List UInt8) : ∀ p ∈ lineW o u, 32 ∉ p ∧ 10 ∉ p := fun p hp => by
  obtain ⟨c, _, rfl⟩ := List.mem_map.1 hp
  exact field_no ho _
theorem join_no (c : UInt8) (hc : c ≠ 32) : ∀ (l : List (List UInt8)) (x : List UInt8), c ∉ x → (∀ p ∈ l, c ∉ p) → c ∉ joinC [32] (x :: l)
  | [], x, hx, _ => by
    show c ∉ x ++ []
    rw [List.append_nil]; exact hx
  | y :: l, x, hx, h => by
    rw [join_cons2]
    intro hm
    rcases List.mem_append.1 hm with hm | hm
    · exact hx hm
    · rcases List.mem_cons.1 hm with hm | hm
      · exact hc hm
      · exact join_no c hc l y (h y (List.mem_cons_self ..)) (fun p hp => h p (List.mem_cons_of_mem _ hp)) hm
theorem join_head (x : List UInt8) (l : List (List UInt8)) (hx : x ≠ []) : (joinC [32] (x :: l)).head? = x.head? ∧ joinC [32] (x :: l) ≠ [] := by
  cases x with
  | nil => exact absurd rfl hx
  | cons a x => exact ⟨rfl, fun h => by cases h⟩
theorem parse_line {o : TOp} (ho : OpOk o) {L : List UInt8} (h : lineR o = (L, 0)) : parseR L = (o, 0) ∧ skipL L = false ∧ 10 ∉ L := by
  unfold lineR at h
  split at h
  · cases h
  rename_i hn
  have hname : nameL o.d ≠ [] := fun e => hn (.inl e)
  have hpl : plainO o = o := Classical.byContradiction fun e => hn (.inr e)
  split at h
  · rename_i hok
    have hL : L = joinC [32] (nameL o.d :: lineW o (usesL o.d)) := by cases h; rfl
    obtain ⟨e1, e2, e3, e4, e5⟩ := name_of o.d hname
    have hw := lineW_no ho (usesL o.d)
    have hlen : (lineW o (usesL o.d)).length = (usesL o.d).length := List.length_map ..
    have hj := join_head (nameL o.d) (lineW o (usesL o.d)) hname
    refine ⟨?_, ?_, ?_⟩
    · rw [hL]
      unfold parseR
      rw [split_join 32 _ _ e3 fun p hp => (hw p hp).1]
      show parseP _ _ = _
      unfold parseP
      rw [e1, if_neg e2, hlen, if_neg (Nat.lt_irrefl _), if_neg (Nat.lt_irrefl _), readAll_put ho _ _ hok, plain_put o.d hname o rfl hpl]
      rfl
    · rw [hL]
      unfold skipL
      rw [decide_eq_false hj.2, hj.1, decide_eq_false e5]
      rfl
    · rw [hL]
      exact join_no 10 (by decide) _ _ e4 fun p hp => (hw p hp).2
  · cases h
theorem map_true : ∀ (f : UInt8 → Bool) (u : List UInt8), u.map f = u.map (fun _ => true) → u.all f = true
  | _, [], _ => rfl
  | f, c :: u, h => by
    simp only [List.map_cons, List.cons.injEq] at h
    rw [List.all_cons, h.1, map_true f u h.2]; rfl
theorem name_ne {d : Int} (h1 : 1 ≤ d) (h2 : d ≤ 10) : nameL d ≠ [] := by
  rcases in10 d with h | h | h | h | h | h | h | h | h | h | h
  all_goals first | omega | (subst h; decide)
theorem line_parse {s : List UInt8} {o : TOp} (h : parseR s = (o, 0)) : lineR o = (s, 0) := by
  unfold parseR at h
  have hj := join_split 32 s
  cases hs : splitC 32 s with
  | nil => rw [hs] at h; cases h
  | cons p0 ps =>
    rw [hs] at h hj
    have h : parseP p0 ps = (o, 0) := h
    unfold parseP at h
    split at h
    · cases h
    rename_i hd
    split at h
    · cases h
    split at h
    · cases h
    rename_i h1 h2
    obtain ⟨hn, hd1, hd10⟩ := of_name p0 hd
    have hn0 := name_ne hd1 hd10
    generalize ofS (B p0) = d at *
    have hr : readAll (oD d) (usesL d) ps = some o := by
      cases hr : readAll (oD d) (usesL d) ps with
      | none => rw [hr] at h; cases h
      | some x => rw [hr] at h; cases h; rfl
    obtain ⟨ys, a1, rfl, a3, a4⟩ := put_readAll (usesL d) ps _ o (by omega) hr
    obtain ⟨b1, b2, b3, b4⟩ := put_plain d hn0 ys a1
    unfold lineR
    rw [b1, b2, b3, ← a3, hn, hj]
    rw [hn] at hn0
    rw [if_neg (fun h => h.elim hn0 (fun h => h rfl))]
    rw [a4] at b4
    unfold lineOk
    rw [if_pos (map_true _ _ b4)]
def rem2 : List UInt8 := [35, 32, 114, 101, 109, 97, 114, 107, 10, 10]
def rems : Nat → List UInt8
  | 0 => []
  | n + 1 => rems n ++ rem2
theorem rems_succ (n : Nat) : rems (n + 1) = rem2 ++ rems n := by
  induction n with
  | zero => rfl
  | succ n ih =>
    show rems (n + 1) ++ rem2 = rem2 ++ (rems n ++ rem2)
    rw [ih, List.append_assoc]
theorem rems_len : ∀ n, (rems n).length = 10 * n
  | 0 => rfl
  | n + 1 => by
    show (rems n ++ rem2).length = _
    rw [List.length_append, rems_len n]
    show 10 * n + 10 = _
    omega
theorem readG_skip {p : List UInt8} (h : skipL p = true) (ps : List (List UInt8)) (i : Nat) (acc : List TOp) : readG (p :: ps) i acc = readG ps (i + 1) acc := if_pos h
theorem readG_op {p : List UInt8} {o : TOp} (h : skipL p = false) (h2 : parseR p = (o, 0)) (ps : List (List UInt8)) (i : Nat) (acc : List TOp) (h3 : acc.length ≠ 2000) : readG (p :: ps) i acc = readG ps (i + 1) (acc ++ [o]) := by
  show (if skipL p = true then _ else _) = _
  rw [h, if_neg (by decide), h2]
  exact (if_neg (fun h => h rfl)).trans (if_neg h3)
theorem readG_rems : ∀ (n : Nat) (s : List UInt8) (i : Nat) (acc : List TOp), readG (splitC 10 (rems n ++ s)) i acc = readG (splitC 10 s) (i + 2 * n) acc
  | 0, s, i, acc => rfl
  | n + 1, s, i, acc => by
    have e : rems (n + 1) ++ s = [35, 32, 114, 101, 109, 97, 114, 107] ++ 10 :: ([] ++ 10 :: (rems n ++ s)) := by rw [rems_succ]; rfl
    rw [e, splitC_at 10 _ [35, 32, 114, 101, 109, 97, 114, 107] (by decide), splitC_at 10 _ [] (by decide)]
    rw [readG_skip (by decide), readG_skip (by decide), readG_rems n s, show i + 1 + 1 + 2 * n = i + 2 * (n + 1) by omega]
theorem readG_wrote : ∀ (l : List TOp) (s : List UInt8) (i : Nat) (acc : List TOp), (∀ o ∈ l, OpOk o) → (∀ o ∈ l, (lineR o).2 = 0) → acc.length + l.length ≤ 2000 → readG (splitC 10 (wrote l ++ s)) i acc = readG (splitC 10 s) (i + l.length) (acc ++ l)
  | [], s, i, acc, _, _, _ => by rw [List.append_nil]; rfl
  | o :: l, s, i, acc, ho, h, hl => by
    have h1 := h o (List.mem_cons_self ..)
    obtain ⟨e1, e2, e3⟩ := parse_line (ho o (List.mem_cons_self ..)) (L := (lineR o).1) (Prod.ext rfl h1)
    have e : wrote (o :: l) ++ s = (lineR o).1 ++ 10 :: (wrote l ++ s) := by
      show (lineR o).1 ++ 10 :: wrote l ++ s = _
      rw [List.append_assoc]; rfl
    have hl' : acc.length + (l.length + 1) ≤ 2000 := hl
    rw [e, splitC_at 10 _ _ e3]
    rw [readG_op e2 e1 _ _ _ (by omega), readG_wrote l s (i + 1) (acc ++ [o]) (fun x hx => ho x (List.mem_cons_of_mem _ hx)) (fun x hx => h x (List.mem_cons_of_mem _ hx)) (by rw [List.length_append]; show acc.length + 1 + l.length ≤ 2000; omega)]
    rw [List.append_assoc, show i + 1 + l.length = i + (o :: l).length by rw [List.length_cons]; omega]
    rfl
theorem script_err (l : List TOp) : (scriptL l).2 = 0 ∧ (∀ o ∈ l, (lineR o).2 = 0) ∧ (scriptL l).1 = wrote l ∨ scriptL l = ([], 1) := by
  induction l with
  | nil => exact .inl ⟨rfl, fun o ho => (by cases ho), rfl⟩
  | cons o l ih =>
    unfold scriptL
    rcases line_err o with h | h
    · rw [if_neg (fun e => e h)]
      rcases ih with ⟨h1, h2, h3⟩ | h1
      · rw [if_neg (fun e => e h1)]
        refine .inl ⟨rfl, fun x hx => ?_, ?_⟩
        · rcases List.mem_cons.1 hx with rfl | hx
          · exact h
          · exact h2 x hx
        · show _ = (lineR o).1 ++ 10 :: wrote l
          rw [← h3]
      · rw [h1]
        exact .inr rfl
    · rw [h]
      exact .inr rfl
theorem read_script (l : List TOp) (ho : ∀ o ∈ l, OpOk o) (hl : l.length ≤ 100) (n : Nat) (hn : n ≤ 8) (h : ∀ o ∈ l, (lineR o).2 = 0) : readR (rems n ++ wrote l ++ rems n) = (l, 0, 0) := by
  have hw := wrote_len l ho
  have hr := rems_len n
  unfold readR
  rw [if_neg (by rw [List.length_append, List.length_append, hr]; omega), List.append_assoc, readG_rems, readG_wrote l _ _ [] ho h (by show 0 + _ ≤ _; omega)]
  have h0 := readG_rems n [] (0 + 2 * n + l.length) ([] ++ l)
  rw [List.append_nil] at h0
  rw [h0]
  show readG [[]] _ _ = _
  rw [readG_skip (by decide)]
  rfl
end Go.AM
