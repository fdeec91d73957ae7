/-
  A law's arguments: structs of integers, opened.
-/
import Derived.Test.YtoemfmnjebbljaaGreatAMb
namespace Go.AM
open Go.ChangeShapes Go.WideShapes

def intKind? : Option TypeDesc → Option IntKind
  | some (.int k) => some k
  | _ => none

/-- a value of a struct of integers (structs in it laid flat): its numbers -/
theorem okWide_ints {P : Program} {W : World} {r : Reach} {base : Nat} {t : TypeId} {v : Value} {fs : Array Field} {ts : List TypeId} {ks : List IntKind} (hu : P.underlying t = some (.struct fs)) (hct : P.cellTypes P.depth t = some ts)
    (hk : ts.map (fun u => intKind? (P.underlying u)) = ks.map some) (hsz : P.cellsOf t = ks.length) (hval : Value.okWide P W r base t v) :
    ∃ ns : List Int, ns.length = ks.length ∧ v = .agg (List.zipWith Value.int ks ns).toArray := by
  unfold Value.okWide at hval
  rw [hu] at hval
  obtain ⟨cs, rfl, h1, ts', h2, _, h3⟩ := hval
  rw [hct] at h2
  cases h2
  have hlen : ts.length = ks.length := by have := congrArg List.length hk; simpa using this
  have hcell : ∀ i (k : IntKind), ks[i]? = some k → ∃ n, cs.toList[i]? = some (Value.int k n) := fun i k hki => by
    have hi : i < ks.length := (List.getElem?_eq_some_iff.1 hki).1
    have hci : i < cs.size := by rw [h1, hsz]; exact hi
    obtain ⟨u, h4, h5⟩ := h3 i cs[i] (Array.getElem?_eq_getElem hci)
    rw [hlen, Nat.mod_eq_of_lt hi] at h4
    have h6 : intKind? (P.underlying u) = some k := by
      have := congrArg (fun l => l[i]?) hk
      simp only [List.getElem?_map, h4, hki, Option.map_some, Option.some.injEq] at this
      exact this
    have h7 : P.underlying u = some (.int k) := by
      unfold intKind? at h6
      split at h6
      · rename_i h; simp only [Option.some.injEq] at h6; rw [h, h6]
      · cases h6
    obtain ⟨n, h8⟩ := okWide_int (v := cs[i]) h7 (by
      unfold Value.okWide
      rw [h7]
      exact h5)
    exact ⟨n, by rw [Array.getElem?_toList, Array.getElem?_eq_getElem hci, h8]⟩
  -- the numbers, one by one
  have key : ∀ (ks : List IntKind) (l : List Value), l.length = ks.length → (∀ (i : Nat) (k : IntKind), ks[i]? = some k → ∃ n, l[i]? = some (Value.int k n)) → ∃ ns : List Int, ns.length = ks.length ∧ l = List.zipWith Value.int ks ns := by
    intro ks
    induction ks with
    | nil => intro l hl _; exact ⟨[], rfl, List.eq_nil_of_length_eq_zero hl⟩
    | cons k ks ih =>
      intro l hl hh
      cases l with
      | nil => simp at hl
      | cons x l =>
        obtain ⟨n, hn⟩ := hh 0 k rfl
        obtain ⟨ns, h9, h10⟩ := ih l (by simpa using hl) fun i k hi => by
          obtain ⟨n, hn⟩ := hh (i + 1) k (by simpa using hi)
          exact ⟨n, by simpa using hn⟩
        simp only [List.getElem?_cons_zero, Option.some.injEq] at hn
        exact ⟨n :: ns, by simp [h9], by simp [hn, h10]⟩
  obtain ⟨ns, h9, h10⟩ := key ks cs.toList (by rw [Array.length_toList, h1, hsz]) hcell
  exact ⟨ns, h9, by rw [← h10]⟩

theorem plain_refl {l : List Value} (h : l.all plainV = true) (m : Match) : LRel m l l := LRel.refl_of fun v hv => plainV_rel (List.all_eq_true.1 h v hv)
end Go.AM
