/-
  Walks over letters of the functions that the law reaches; written small by a program of mine.
-/
import Derived.Carry
import Derived.ChangeArms
import Derived.ChangeKeysEq
import Derived.KernelRfl
import Derived.Laws.BytesString
import Derived.Laws.Cells
import Derived.Laws.Entries
import Derived.Laws.Externs
import Derived.Laws.StructEq
import Derived.Laws.Tables
import Derived.LoopNIn
import Derived.Maps.RangeRun
import Derived.OpenShut
import Derived.OrdersIn
import Derived.ProofKit
import Derived.RangeFuncLeaves
import Derived.TacticsIn
import Derived.WideShapes
set_option linter.unusedSimpArgs false
set_option linter.unusedVariables false
set_option linter.unusedSectionVars false
namespace Go.AM
open Go
set_option linter.defProp false
theorem kq{P:Prop}(h:P:=by kernel_rfl):P:=h
def we := @Option.bind_eq_some_iff
def wi := @Option.some.injEq
def wj := @List.getElem?_eq_getElem
def wk := @Prod.mk.injEq
def wo := @Option.bind_some
def wq := @Nat.lt_of_lt_of_le
def wu := @Result.andThen_ok
def wx := @decide_eq_false
def wy := @Nat.le_refl
def wz := @decide_eq_true
def wA := @Bool.and_eq_true
def wB := @Sem.run_bind
def wC := @Sem.run_pure
def wD := @List.getElem?_eq_some_iff
def wE := @Eq.trans
def wF := @if_pos
def wG := @Bool.false_eq_true
def wI := @if_neg
def wJ := @Nat.zero_le
def wK := @Nat.le_trans
def wL := @List.nil_append
def wM := @List.mem_cons_of_mem
def wN := @List.length_append
def wO := @List.length_map
def wP := @Nat.ble_eq_true_of_le
def wQ := @List.getElem?_cons_zero
def wR := @List.take_add_one
def wS := @cond_false
def wT := @decide_eq_true_eq
def wU := @List.length_take
def wW := @List.mem_cons_self
def wX := @List.drop_eq_getElem_cons
def wY := @List.length_cons
def wZ := @List.take_of_length_le
def w0 := @Array.getElem?_eq_some_iff
def waa := @if_false
def wab := @List.getElem?_take
def wac := @List.eq_nil_of_length_eq_zero
def wad := @List.mem_cons
def wae := @List.getElem?_drop
def waf := @List.getElem?_append_left
def wag := @List.mem_of_getElem?
def wah := @if_true
def wai := @cond_true
def waj := @List.take_length
def wak := @List.getElem?_eq_none
def wal := @decide_eq_false_iff_not
def wam := @List.getElem_mem
def wan := @Nat.le_of_ble_eq_true
def wao := @Array.getElem?_toList
def wap := @of_decide_eq_true
def waq := @Value.slice.injEq
def war := @List.getElem?_map
def wat := @List.cons_append
def wau := @Nat.zero_add
def wav := @List.getD_eq_getElem?_getD
def waw := @List.append_nil
def wax := @Array.getD_eq_getD_getElem?
def waz := @Nat.le_of_lt
def waA := @List.length_nil
def waB := @List.getElem?_append_right
def waC := @List.all_eq_true
def waD := @Int.toNat_natCast
def waE := @Option.map_some
def waF := @Array.length_toList
def waG := @List.mem_singleton
def waH := @Option.some.inj
def waI := @List.mem_append
def waJ := @Go.wpIn_mono
def waK := @Bool.eq_false_iff
def waL := @decide_eq_true_iff
def waM := @Bool.not_eq_false'
def waN := @run_underlying
def waO := @List.drop_eq_nil_of_le
def waP := @List.append_assoc
def waQ := @Nat.mul_le_mul_right
def waR := @List.ext_getElem?
def waS := @Nat.min_eq_left
def waT := @List.map_append
def waU := @Bool.eq_iff_iff
def waV := @List.drop_succ_cons
def waW := @Nat.add_mul
def waX := @Nat.add_zero
def waY := @Nat.mul_one
def waZ := @List.drop_zero
def wa0 := @Array.getElem?_eq_getElem
def wa5 := @false_iff
def wa6 := @Option.map_eq_some_iff
def wa7 := @Bool.not_true
def wa8 := @Array.getElem?_setIfInBounds_ne
def wa9 := @Bool.true_and
def wba := @Array.toList_eq_nil_iff
def wbb := @List.not_mem_nil
def wbc := @Nat.beq_refl
def wbd := @List.flatMap_append
def wbe := @List.length_drop
def wbf := @Nat.lt_succ_of_lt
def wbg := @Nat.pow_le_pow_right
def wbh := @true_iff
def wbi := @Nat.ble_eq
def wbj := @Bool.false_and
def wbk := @List.map_cons
def wbl := @Ne.symm
def wbm := @List.flatMap_cons
def wbn := @List.length_replicate
def wbo := @List.getElem?_cons_succ
def wbp := @Nat.beq_eq
def wbq := @beq_self_eq_true
def wbr := @Option.getD_some
def wbs := @List.drop_of_length_le
def wbt := @Bool.not_eq_true'
def wbu := @List.all_cons
def wbv := @List.nodup_nil
def wbw := @Nat.eq_of_beq_eq_true
def wbx := @List.mem_iff_getElem?
def wby := @List.length_eq_zero_iff
def wbz := @Int.eq_ofNat_of_zero_le
def wbA := @Array.getElem?_setIfInBounds
def wbB := @Bool.cond_self
def wbC := @List.getElem?_range
def wbD := @Array.getElem?_push
def wbE := @Nat.le_max_right
def wbF := @List.drop_length
def wbG := @List.mem_map
def wbH := @Nat.add_assoc
def wbI := @of_decide_eq_false
def wbJ := @List.length_singleton
def wbK := @Classical.byContradiction
def wbL := @List.mem_iff_getElem
def wbM := @Bool.or_eq_false_iff
def wbN := @run_newObj
def wbO := @beq_iff_eq
def wbP := @Nat.le_max_left
def wbQ := @List.cons.injEq
def wbR := @Bool.or_eq_true
def wbS := @Nat.sub_self
def wbT := @true_and
def wbU := @Nat.one_mul
def wbV := @Array.toList_append
def wbW := @Array.toList_inj
def wbX := @List.take_append_of_le_length
def wbY := @List.drop_append_of_le_length
def wbZ := @List.drop_drop
def wb0 := @Bool.not_false
def wb1 := @Option.isSome_some
def wb2 := @Nat.zero_mul
def wb3 := @List.idxOf_cons
def wb4 := @List.foldl_cons
def wb5 := @List.length_filter_le
def wb6 := @List.idxOf_lt_length_of_mem
def wb7 := @Array.getElem?_setIfInBounds_self_of_lt
def wb8 := @Bool.and_self
def wb9 := @List.length_range
def wca := @List.getElem?_set
def wcb := @Array.getElem?_append_left
def wcc := @List.mem_range
def wcd := @Nat.lt_succ_self
def wce := @List.filter_cons
def wcf := @List.countP_cons
def wcg := @Int.natCast_zero
def wch := @List.take_succ_cons
def wci := @Option.isSome_iff_exists
def wcj := @List.getElem?_take_of_lt
def wck := @or_false
def wcl := @and_true
def wcm := @Bool.and_true
def wcn := @List.length_set
def wco := @Int.natCast_nonneg
def wcp := @Array.ext_getElem?
def wcq := @List.take_zero
def wcr := @Nat.and_two_pow_sub_one_eq_mod
def wcs := @roundsIn_succ
def wct := @Bool.false_or
def wcu := @Nat.pow_pos
def wcv := @List.takeWhile_cons_of_pos
def wcw := @Int.fdiv_eq_ediv_of_nonneg
def wcx := @Option.toList_some
def wcy := @Option.isNone_none
def wcz := @List.mem_filterMap
def wcA := @Array.foldl_toList
def wcB := @DataW.trod_int
def wcC := @not_true_eq_false
def wcD := @List.all_eq_false
def wcE := @Addr.mk.injEq
def wcF := @Nat.le_of_not_lt
def wcG := @Nat.mul_comm
def wcH := @Option.map_none
def wcI := @Array.getElem?_modify
def wcJ := @Array.ext'
def wcK := @Nat.not_succ_le_self
def wcL := @List.range_eq_range'
def wcM := @Array.getElem_toList
def wcN := @List.take_take
def wcO := @List.drop_take
def wcP := @Bool.and_false
def wcQ := @callsIn_of_wp_marks
def wcR := @Nat.testBit_two_pow
def wcS := @List.length_pos_iff
inductive Trie(α:Type) where
 |nil
 |node (v:Option α) (l r:Trie α)
def Trie.get{α:Type}:Trie α→Nat→Option α
 | .nil,_=>none
 | .node v l r,k=>
   match k with
   |0=>v
   |k+1=>bif Nat.beq (Nat.mod k 2) 0 then l.get (Nat.div k 2)else r.get (Nat.div k 2)
def Trie.force{α β:Type}(t:Trie α)(f:Trie α→β):β:=
 match t with
 | .nil=>f .nil
 | .node v l r=>f (.node v l r)
def Trie.put{α:Type}(a:Option α):Nat→Nat→Trie α→Trie α
 |0,_,_=> .nil
 |n+1,k,t=>
  match k with
  |0=>
   match t with
   | .nil=> .node a .nil .nil
   | .node _ l r=> .node a l r
  |k+1=>
   match t with
   | .nil=>
     bif Nat.beq (Nat.mod k 2) 0 then(Trie.put a n (Nat.div k 2) .nil).force fun x=> .node none x .nil
     else(Trie.put a n (Nat.div k 2) .nil).force fun x=> .node none .nil x
   | .node v l r=>
     bif Nat.beq (Nat.mod k 2) 0 then(Trie.put a n (Nat.div k 2) l).force fun x=> .node v x r
     else(Trie.put a n (Nat.div k 2) r).force fun x=> .node v l x
def deep:Nat:=40
def Trie.set{α:Type}(t:Trie α)(k:Nat)(a:α):Trie α:=Trie.put (some a) deep k t
def Trie.del{α:Type}(t:Trie α)(k:Nat):Trie α:=Trie.put none deep k t
theorem Trie.force_eq{α β:Type}(t:Trie α)(f:Trie α→β):t.force f=f t:=by cases t<;>rfl
theorem pK(x:Nat):(Nat.beq (x%2) 0=true∧x%2=0)∨(Nat.beq (x%2) 0=false∧x%2=1):=by
 rcases Nat.mod_two_eq_zero_or_one x with h|h
 ·exact .inl ⟨by rw[h];rfl,h⟩
 ·exact .inr ⟨by rw[h];rfl,h⟩
theorem Trie.yK{α:Type}(a:Option α)(v:α):∀ (n k j:Nat) (t:Trie α),(Trie.put a n k t).get j=some v→(j=k∧a=some v)∨(j≠k∧t.get j=some v)
 |0,k,j,t,h=>by simp[Trie.put,Trie.get]at h
 |n+1,0,j,t,h=>by cases t<;>cases j<;>simp_all[Trie.put,Trie.get]
 |n+1,k+1,j,t,h=>by
  have e:Nat.div k 2=k/2:=rfl
  have em:Nat.mod k 2=k%2:=rfl
  cases j with
  |zero=>
   cases t<;>simp only[Trie.put,Trie.force_eq,e,em]at h<;>rcases pK k with⟨h1,_⟩|⟨h1,_⟩<;>simp[h1,Trie.get]at h<;>exact .inr ⟨by omega,h⟩
  |succ j=>
   have ej:Nat.div j 2=j/2:=rfl
   have Bk:Nat.mod j 2=j%2:=rfl
   cases t with
   |nil=>
    simp only[Trie.put,Trie.force_eq,e,em]at h
    rcases pK k with⟨h1,h2⟩|⟨h1,h2⟩<;>rcases pK j with⟨h3,h4⟩|⟨h3,h4⟩<;>simp only[h1,h3,Trie.get,wai,wS,ej,Bk,reduceCtorEq]at h
    ·rcases Trie.yK a v n (k/2) (j/2) .nil h with⟨h5,h6⟩|⟨_,h6⟩
     ·exact .inl ⟨by omega,h6⟩
     ·simp[Trie.get]at h6
    ·rcases Trie.yK a v n (k/2) (j/2) .nil h with⟨h5,h6⟩|⟨_,h6⟩
     ·exact .inl ⟨by omega,h6⟩
     ·simp[Trie.get]at h6
   |node u l r=>
    simp only[Trie.put,Trie.force_eq,e,em]at h
    rcases pK k with⟨h1,h2⟩|⟨h1,h2⟩<;>rcases pK j with⟨h3,h4⟩|⟨h3,h4⟩<;>simp only[h1,h3,Trie.get,wai,wS,ej,Bk]at h⊢
    ·rcases Trie.yK a v n (k/2) (j/2) l h with⟨h5,h6⟩|⟨h5,h6⟩
     ·exact .inl ⟨by omega,h6⟩
     ·exact .inr ⟨by omega,h6⟩
    ·exact .inr ⟨by omega,h⟩
    ·exact .inr ⟨by omega,h⟩
    ·rcases Trie.yK a v n (k/2) (j/2) r h with⟨h5,h6⟩|⟨h5,h6⟩
     ·exact .inl ⟨by omega,h6⟩
     ·exact .inr ⟨by omega,h6⟩
def vP:Nat:=549755813888
theorem Trie.yL{α:Type}(a:Option α):∀ (n k j:Nat) (t:Trie α),j≠k→j<2^n-1→(Trie.put a n k t).get j=t.get j
 |0,k,j,t,_,h=>by simp at h
 |n+1,0,j,t,aX,_=>by
  cases j with
  |zero=>exact absurd rfl aX
  |succ j=>cases t<;>simp[Trie.put,Trie.get]
 |n+1,k+1,j,t,aX,hj=>by
  have e:Nat.div k 2=k/2:=rfl
  have em:Nat.mod k 2=k%2:=rfl
  have h2:2^(n+1)=2*2^n:=by rw[Nat.pow_succ];omega
  cases j with
  |zero=>cases t<;>simp only[Trie.put,Trie.force_eq,e,em]<;>rcases pK k with⟨h1,_⟩|⟨h1,_⟩<;>simp[h1,Trie.get]
  |succ j=>
   have ej:Nat.div j 2=j/2:=rfl
   have Bk:Nat.mod j 2=j%2:=rfl
   have pA:j/2<2^n-1:=by omega
   have hx:Trie.get (α:=α) .nil (j/2)=none:=by simp[Trie.get]
   cases t with
   |nil=>
    simp only[Trie.put,Trie.force_eq,e,em]
    rcases pK k with⟨h1,h3⟩|⟨h1,h3⟩<;>rcases pK j with⟨h4,h5⟩|⟨h4,h5⟩<;>simp only[h1,h4,Trie.get,wai,wS,ej,Bk]
    ·rw[Trie.yL a n (k/2) (j/2) .nil (by omega) pA,hx]
    ·rw[Trie.yL a n (k/2) (j/2) .nil (by omega) pA,hx]
   |node u l r=>
    simp only[Trie.put,Trie.force_eq,e,em]
    rcases pK k with⟨h1,h3⟩|⟨h1,h3⟩<;>rcases pK j with⟨h4,h5⟩|⟨h4,h5⟩<;>simp only[h1,h4,Trie.get,wai,wS,ej,Bk]
    ·rw[Trie.yL a n (k/2) (j/2) l (by omega) pA]
    ·rw[Trie.yL a n (k/2) (j/2) r (by omega) pA]
theorem Trie.NY{α:Type}(a:Option α):∀ (n k:Nat) (t:Trie α),k<2^n-1→(Trie.put a n k t).get k=a
 |0,k,t,h=>by simp at h
 |n+1,0,t,_=>by cases t<;>simp[Trie.put,Trie.get]
 |n+1,k+1,t,hk=>by
  have e:Nat.div k 2=k/2:=rfl
  have em:Nat.mod k 2=k%2:=rfl
  have h2:2^(n+1)=2*2^n:=by rw[Nat.pow_succ];omega
  have gR:k/2<2^n-1:=by omega
  cases t<;>simp only[Trie.put,Trie.force_eq,e,em]<;>rcases pK k with⟨h1,_⟩|⟨h1,_⟩<;>simp only[h1,Trie.get,wai,wS,e,em]<;>exact Trie.NY a n (k/2) _ gR
theorem HQ{k:Nat}(h:k<vP):k<2^deep-1:=by
 have:vP≤2^deep-1:=by decide
 omega
theorem Trie.dm{α:Type}{t:Trie α}{k j:Nat}{a v:α}(h:(t.set k a).get j=some v):(j=k∧v=a)∨(j≠k∧t.get j=some v):=by
 rcases Trie.yK (some a) v deep k j t h with⟨h1,h2⟩|h
 ·exact .inl ⟨h1,by simpa using h2.symm⟩
 ·exact .inr h
theorem Trie.jf{α:Type}{t:Trie α}{k j:Nat}{v:α}(h:(t.del k).get j=some v):j≠k∧t.get j=some v:=by
 rcases Trie.yK none v deep k j t h with⟨_,h2⟩|h
 ·simp at h2
 ·exact h
theorem Trie.mN{α:Type}{t:Trie α}{k:Nat}{a:α}(h:k<vP):(t.set k a).get k=some a:=Trie.NY _ _ _ _ (HQ h)
theorem Trie.uT{α:Type}{t:Trie α}{k j:Nat}{a:α}(aX:j≠k)(h:j<vP):(t.set k a).get j=t.get j:=Trie.yL _ _ _ _ _ aX (HQ h)
theorem Trie.vv{α:Type}{t:Trie α}{k j:Nat}(aX:j≠k)(h:j<vP):(t.del k).get j=t.get j:=Trie.yL _ _ _ _ _ aX (HQ h)
class Maps where
 T:Type→Type
 nil:{α:Type}→T α
 get:{α:Type}→T α→Nat→Option α
 set:{α:Type}→T α→Nat→α→T α
 del:{α:Type}→T α→Nat→T α
 force:{α β:Type}→T α→(T α→β)→β
 get_nil:∀ {α:Type} (k:Nat),get (nil:T α) k=none
 dm:∀ {α:Type} {t:T α} {k j:Nat} {a v:α},get (set t k a) j=some v→(j=k∧v=a)∨(j≠k∧get t j=some v)
 jf:∀ {α:Type} {t:T α} {k j:Nat} {v:α},get (del t k) j=some v→j≠k∧get t j=some v
 nM:Nat→Bool
 low:Nat→Prop
 rR:∀ {n k:Nat},nM n=true→k≤n→low k
 mN:∀ {α:Type} {t:T α} {k:Nat} {a:α},low k→get (set t k a) k=some a
 uT:∀ {α:Type} {t:T α} {k j:Nat} {a:α},j≠k→low j→get (set t k a) j=get t j
 vv:∀ {α:Type} {t:T α} {k j:Nat},j≠k→low j→get (del t k) j=get t j
 force_eq:∀ {α β:Type} (t:T α) (f:T α→β),force t f=f t
@[reducible] def trieMaps:Maps where
 T:=Trie
 nil:= .nil
 get:=Trie.get
 set:=Trie.set
 del:=Trie.del
 force:=Trie.force
 get_nil k:=by simp[Trie.get]
 dm:=Trie.dm
 nM n:=Nat.blt n vP
 low n:=n<vP
 rR h hk:=Nat.lt_of_le_of_lt hk (wan h)
 jf:=Trie.jf
 mN:=Trie.mN
 uT:=Trie.uT
 vv:=Trie.vv
 force_eq:=Trie.force_eq
@[reducible] def fnMaps:Maps where
 T α:=Nat→Option α
 nil:=fun _=>none
 get t k:=t k
 set t k a:=fun j=>if j=k then some a else t j
 del t k:=fun j=>if j=k then none else t j
 force t f:=f t
 get_nil k:=rfl
 nM _:=true
 low _:=True
 rR _ _:=trivial
 dm {α t k j a v} h:=by
  by_cases hj:j=k
  ·simp[hj]at h;exact .inl ⟨hj,h.symm⟩
  ·simp[hj]at h;exact .inr ⟨hj,h⟩
 jf {α t k j v} h:=by
  by_cases hj:j=k
  ·simp[hj]at h
  ·simp[hj]at h;exact⟨hj,h⟩
 mN _:=by simp
 uT h _:=by simp[h]
 vv h _:=by simp[h]
 force_eq _ _:=rfl
def GN:Nat:=0
def GL(_:World):Prop:=True
theorem L5{w w':World}(_:∀ b,b<GN→w'.heap[b]? =w.heap[b]?)(_:GL w):GL w':=trivial
def BT:Nat:=1000000000
section
variable[Maps]
abbrev Tr(α:Type):Type:=Maps.T α
def Tr.nil{α:Type}:Tr α:=Maps.nil
def Tr.get{α:Type}(t:Tr α)(k:Nat):Option α:=Maps.get t k
def Tr.set{α:Type}(t:Tr α)(k:Nat)(a:α):Tr α:=Maps.set t k a
def Tr.del{α:Type}(t:Tr α)(k:Nat):Tr α:=Maps.del t k
def Tr.force{α β:Type}(t:Tr α)(f:Tr α→β):β:=Maps.force t f
def Tr.F9{α:Type}:List α→Nat→Tr α→Tr α
 |[],_,t=>t
 |x::l,k,t=>Tr.F9 l (k+1) (t.set k x)
def Tr.of{α:Type}(l:List α):Tr α:=Tr.F9 l 0 Tr.nil
def Tr.Dh{α:Type}:List (Option α)→Nat→Tr α→Tr α
 |[],_,t=>t
 | .some x::l,k,t=>Tr.Dh l (k+1) (t.set k x)
 | .none::l,k,t=>Tr.Dh l (k+1) t
def Tr.Li{α:Type}(l:List (Option α)):Tr α:=Tr.Dh l 0 Tr.nil
def forceNat{β:Type}(n:Nat)(f:Nat→β):β:=
 match n with
 |0=>f 0
 |n+1=>f (n+1)
def forceInt{β:Type}(n:Int)(f:Int→β):β:=
 match n with
 | .ofNat n=>forceNat n fun n=>f (.ofNat n)
 | .negSucc n=>forceNat n fun n=>f (.negSucc n)
def leI(a b:Int):Bool:=
 match a,b with
 | .ofNat x,.ofNat y=>Nat.ble x y
 | .ofNat _,.negSucc _=>false
 | .negSucc _,.ofNat _=>true
 | .negSucc x,.negSucc y=>Nat.ble y x
def eqI(a b:Int):Bool:=
 match a,b with
 | .ofNat x,.ofNat y=>Nat.beq x y
 | .negSucc x,.negSucc y=>Nat.beq x y
 |_,_=>false
def mI(a b:Int):Bool:= !leI b a
def at?(i:Int)(n:Nat):Option Nat:=
 match i with
 | .ofNat i=>bif Nat.blt i n then some i else none
 | .negSucc _=>none
def to?(i:Int)(n:Nat):Option Nat:=
 match i with
 | .ofNat i=>bif Nat.ble i n then some i else none
 | .negSucc _=>none
def plain1:Value→Bool
 | .bool _| .int _ _| .string _| .pointer none| .slice none _ _| .map none| .nilFunc| .nilIface=>true
 |_=>false
def plainV:Value→Bool
 | .agg cs=>cs.toList.all plain1
 |v=>plain1 v
structure TI where
 desc:TypeDesc
 size:Nat
 bytes:Nat
 agg:Bool
 zero:Option Value
 cmp:Bool
 fs:List (Nat×TypeId)
def descOf(P:Program)(i:TypeInfo):Option TypeDesc:=
 match i.desc with
 | .named _ u=>(P.info? u).bind fun j=>some j.desc
 |d=>some d
def isAggD:TypeDesc→Bool
 | .struct _=>true
 | .array _ _=>true
 |_=>false
def Lj:TypeDesc→List (Nat×TypeId)
 | .struct fs=>(fs.toList.filter fun f=>f.name != "_").map fun f=>(f.offset,f.type)
 |_=>[]
def TI.of(P:Program)(t:TypeId)(i:TypeInfo):Option TI:=
 (descOf P i).bind fun d=>some
 {desc:=d,size:=i.size,bytes:=i.bytes,agg:=isAggD d,
  zero:=(match i.zero with
   |some z=>bif plainV z then some z else none
   |none=>none),
  cmp:= !P.stoodInHeld t&& !P.eqGuardType P.depth t,fs:=Lj d}
inductive Ga where
 |start
 |told (i:Nat)
inductive AObj where
 |row (cells:List Value) (bK:Option (Nat×Nat)) (dw:Bool)
 |map (es:List (Value×Value))
 |loop (state:LoopState) (pending:Option Code) (size:Nat) (tmps:Tr Value) (params:List Tmp) (assign body:Code) (defers:Nat)
 |defers
 |iter (m:Option Nat) (n:Nat) (pos:Ga)
 |po (s:ByteArray) (pos:Nat)
 |lh (es:List ((Value×Value)×Nat)) (clock:Nat)
 |lJ (m lK:Nat) (seen:List Nat) (last:Nat)
structure Heap where
 objs:Tr AObj
 grps:Tr (List Nat)
 next:Nat
 lo:Nat
structure Env where
 P:Program
 ty:Tr TI
 fn:Tr Func
 orc:Value→List Value→Heap→Option (Value×Heap)
def Env.of(P:Program):Env:={P,ty:=Tr.Li (P.types.toList.zipIdx.map fun p=>TI.of P p.2 p.1),fn:=Tr.of P.funcs.toList,orc:=fun _ _ _=>none}
def Heap.empty:Heap:={objs:=Tr.nil,grps:=Tr.nil,next:=0,lo:=0}
def Heap.add(H:Heap)(o:AObj):Heap:=
 forceNat H.next fun n=>(H.objs.set n o).force fun t=>{objs:=t,grps:=H.grps,next:=n+1,lo:=H.lo}
def Heap.setObj(H:Heap)(l:Nat)(o:AObj):Heap:=(H.objs.set l o).force fun t=>{objs:=t,grps:=H.grps,next:=H.next,lo:=H.lo}
def Heap.newRow(H:Heap)(cells:List Value):Heap:=H.add (.row cells none true)
def ptr(r o:Nat):Value:= .pointer (some ⟨r,o,none⟩)
def cut(l:List Value)(o n:Nat):Option (List Value):=
 bif Nat.ble (o+n) l.length then some ((l.drop o).take n)else none
def over(new:List Value):Nat→List Value→List Value
 |0,l=>new++l.drop new.length
 |o+1,x::l=>x::over new o l
 |_+1,[]=>[]
def killMarks(lo:Nat)(t:Tr AObj):List Nat→Option (Tr AObj)
 |[]=>some t
 |k::l=>
  match t.get k with
  |some .defers=>bif Nat.ble lo k then killMarks lo (t.del k) l else none
  |_=>none
def tz(lo:Nat)(t:Tr AObj):List Nat→Option (Tr AObj)
 |[]=>some t
 |k::l=>bif Nat.ble lo k then tz lo (t.del k) l else none
def isCell:Value→Bool
 | .agg _| .tuple _=>false
 |_=>true
def Heap.write(H:Heap)(r o:Nat)(new:List Value):Option Heap:=
 bif !Nat.ble H.lo r|| !new.all isCell then none else
 match H.objs.get r with
 |some (.row cells bK true)=>
  bif !Nat.ble (o+new.length) cells.length then none else
  match bK with
  |none=>(H.objs.set r (.row (over new o cells) none true)).force fun t=>some {objs:=t,grps:=H.grps,next:=H.next,lo:=H.lo}
  |some (g,z)=>
   match H.grps.get g with
   |some aT=>(tz H.lo H.objs aT).bind fun t=>(t.set r (.row (over new o cells) (some (g,z)) true)).force fun t=>(H.grps.set g []).force fun gs=>some {objs:=t,grps:=gs,next:=H.next,lo:=H.lo}
   |none=>none
 |_=>none
def ev(T:Tr Value):Operand→Option Value
 | .tmp t=>T.get t
 | .const v=>bif plainV v then some v else none
 | .global _=>none
 | .func f=>some (.func (.func f) #[] #[])
def evs(T:Tr Value):List Operand→Option (List Value)
 |[]=>some []
 |x::l=>(ev T x).bind fun v=>(evs T l).bind fun vs=>some (v::vs)
def Gb(k:IntKind)(n:Int):Int:=bif leI k.min n&&leI n k.max then n else k.wrap n
def gC(k:IntKind)(n:Int):Option Value:=forceInt (Gb k n) fun n=>some (.int k n)
def mJ(a b:ByteArray):Bool:=a.toList==b.toList
def sameKind:IntKind→IntKind→Bool
 | .i8,.i8| .i16,.i16| .i32,.i32| .i64,.i64| .u8,.u8| .u16,.u16| .u32,.u32| .u64,.u64=>true
 |_,_=>false
def intOp(op:BinOp)(k:IntKind)(a b:Int):Option Value:=
 match op with
 | .add=>gC k (a+b)
 | .sub=>gC k (a-b)
 | .mul=>gC k (a*b)
 | .quo=>bif eqI b 0 then none else gC k (a.tdiv b)
 | .rem=>bif eqI b 0 then none else forceInt (a.tmod b) fun n=>some (.int k n)
 | .and=>gC k (BitVec.ofInt k.bits a&&&BitVec.ofInt k.bits b).toNat
 | .or=>gC k (BitVec.ofInt k.bits a|||BitVec.ofInt k.bits b).toNat
 | .xor=>gC k (BitVec.ofInt k.bits a ^^^ BitVec.ofInt k.bits b).toNat
 | .andNot=>gC k (BitVec.ofInt k.bits a&&& ~~~BitVec.ofInt k.bits b).toNat
 | .eql=>some (.bool (eqI a b))
 | .neq=>some (.bool (!eqI a b))
 | .lss=>some (.bool (mI a b))
 | .leq=>some (.bool (leI a b))
 | .gtr=>some (.bool (mI b a))
 | .geq=>some (.bool (leI b a))
 |_=>none
def shiftOp(op:BinOp)(k:IntKind)(a b:Int):Option Value:=
 bif mI b 0 then none else
 match op with
 | .shl=>gC k (a*2^(min b.toNat k.bits))
 | .shr=>forceInt (a.fdiv (2^(min b.toNat k.bits))) fun n=>some (.int k n)
 |_=>none
def strOp(op:BinOp)(a b:ByteArray):Option Value:=
 match op with
 | .add=>bif Nat.ble (a.size+b.size) 1000000000 then some (.string (a++b))else none
 | .eql=>some (.bool (mJ a b))
 | .neq=>some (.bool (!mJ a b))
 | .lss=>some (.bool (Op.bytesLess a.toList b.toList))
 | .leq=>some (.bool (Op.bytesLess a.toList b.toList||mJ a b))
 | .gtr=>some (.bool (!(Op.bytesLess a.toList b.toList||mJ a b)))
 | .geq=>some (.bool (!Op.bytesLess a.toList b.toList))
 |_=>none
def Env.size(E:Env)(t:TypeId):Option Nat:=(E.ty.get t).bind fun i=>some i.size
def jC(E:Env)(t:TypeId)(cs:List Value)(off:Nat):Option Value:=
 (E.ty.get t).bind fun i=>bif i.agg then(cut cs off i.size).bind fun l=>some (.agg l.toArray)else cs[off]?
def eqFields(E:Env)(tH:TypeId→Value→Value→Option Bool)(xs ys:List Value):List (Nat×TypeId)→Option Bool
 |[]=>some true
 |(o,t)::fs=>
  (jC E t xs o).bind fun a=>(jC E t ys o).bind fun b=>(tH t a b).bind fun r=>
   match r with
   |true=>eqFields E tH xs ys fs
   |false=>some false
def eqV(E:Env):Nat→TypeId→Value→Value→Option Bool
 |0,_,_,_=>none
 |d+1,t,x,y=>
  (E.ty.get t).bind fun i=>
  match i.desc,x,y with
  | .bool,.bool a,.bool b=>some (a==b)
  | .int _,.int k a,.int k' b=>bif sameKind k k' then some (eqI a b)else none
  | .string,.string a,.string b=>some (mJ a b)
  | .pointer _,.pointer none,.pointer b=>some b.isNone
  | .pointer _,.pointer _,.pointer none=>some false
  | .interface _,.nilIface,.iface _ _=>some false
  | .interface _,.iface _ _,.nilIface=>some false
  | .struct _,.agg xs,.agg ys=>bif i.cmp then eqFields E (eqV E d) xs.toList ys.toList i.fs else none
  | .slice _,.slice none _ _,.slice b _ _=>some b.isNone
  | .slice _,.slice _ _ _,.slice none _ _=>some false
  | .map _ _,.map none,.map b=>some b.isNone
  | .map _ _,.map _,.map none=>some false
  | .func _ _ _,.nilFunc,.nilFunc=>some true
  | .func _ _ _,.nilFunc,.func _ _ _=>some false
  | .func _ _ _,.func _ _ _,.nilFunc=>some false
  |_,_,_=>none
def isConst:Operand→Bool
 | .const _=>true
 |_=>false
def binV(E:Env)(op:BinOp)(t:TypeId)(x y:Operand)(a b:Value):Option Value:=
 match a,b with
 | .int k m,.int k' n=>
   match op with
   | .shl=>shiftOp .shl k m n
   | .shr=>shiftOp .shr k m n
   |op=>bif sameKind k k' then intOp op k m n else none
 | .string m,.string n=>strOp op m n
 | .nilIface,.nilIface=>
   bif isConst x||isConst y then
    (E.ty.get t).bind fun i=>
    match i.desc,op with
    | .interface _,.eql=>some (.bool true)
    | .interface _,.neq=>some (.bool false)
    |_,_=>none
   else none
 |a,b=>
  match op with
  | .eql=>(eqV E 100 t a b).bind fun r=>some (.bool r)
  | .neq=>(eqV E 100 t a b).bind fun r=>some (.bool (!r))
  |_=>none
def unV(op:UnOp)(x:Value):Option Value:=
 match op,x with
 | .neg,.int k n=>gC k (0-n)
 | .xor,.int k n=>intOp .xor k (if k.signed then -1 else k.max) n
 | .not,.bool b=>some (.bool (!b))
 |_,_=>none
def fillV(cells:List Value):List (Nat×Nat×Value)→Option (List Value)
 |[]=>some cells
 |(off,size,v)::rest=>
  let new:=v.cells.toList
  bif Nat.beq new.length size&&Nat.ble (off+size) cells.length then fillV (over new off cells) rest else none
def evParts(T:Tr Value)(place:Nat→Option (Nat×Nat)):List (Nat×Operand)→Option (List (Nat×Nat×Value))
 |[]=>some []
 |(i,x)::l=>(place i).bind fun p=>(ev T x).bind fun v=>(evParts T place l).bind fun r=>some ((p.1,p.2,v)::r)
def cg:Value→List Value
 | .agg cs=>cs.toList
 |v=>[v]
def df(z:List Value):Nat→List Value
 |0=>[]
 |n+1=>z++df z n
def placesV(E:Env):List Field→Option (List (Nat×Nat))
 |[]=>some []
 |f::fs=>(E.size f.type).bind fun s=>(placesV E fs).bind fun l=>some ((f.offset,s)::l)
def gD(E:Env)(T:Tr Value)(t:TypeId)(parts:List (Nat×Operand)):Option Value:=
 (E.ty.get t).bind fun i=>i.zero.bind fun z=>
  match i.desc with
  | .struct fs=>(placesV E fs.toList).bind fun pl=>(evParts T (fun k=>pl[k]?) parts).bind fun ps=>(fillV (cg z) ps).bind fun l=>some (.agg l.toArray)
  | .array _ e=>(E.size e).bind fun s=>(evParts T (fun k=>some (k*s,s)) parts).bind fun ps=>(fillV (cg z) ps).bind fun l=>some (.agg l.toArray)
  |_=>none
def bounds(len cap:Nat)(lo hi mx:Option Value):Option (Nat×Nat×Nat):=
 (match mx with
  |none=>some cap
  |some (.int _ n)=>to? n cap
  |some _=>none).bind fun m=>
 (match hi with
  |none=>match mx with
   |none=>some len
   |some _=>none
  |some (.int _ n)=>to? n m
  |some _=>none).bind fun h=>
 (match lo with
  |none=>some 0
  |some (.int _ n)=>to? n h
  |some _=>none).bind fun l=>some (l,h,m)
def evO(T:Tr Value):Option Operand→Option (Option Value)
 |none=>some none
 |some x=>(ev T x).bind fun v=>some (some v)
def sliceV(E:Env)(H:Heap)(t:TypeId)(x:Value)(lo hi mx:Option Value):Option Value:=
 (E.ty.get t).bind fun i=>
 match i.desc,x with
 | .string,.string s=>
   match mx with
   |some _=>none
   |none=>(bounds s.size s.size lo hi none).bind fun b=>some (.string (s.extract b.1 b.2.1))
 | .slice e,.slice (some ⟨r,o,none⟩) len cap=>
   bif !Nat.ble len cap then none else
   (bounds len cap lo hi mx).bind fun b=>(E.size e).bind fun size=>
    match H.objs.get r with
    |some (.row _ none _)=>some (.slice (some ⟨r,bif Nat.beq b.2.2 b.1 then o else o+b.1*size,none⟩) (b.2.1-b.1) (b.2.2-b.1))
    |some (.row _ (some (_,z)) _)=>
     bif Nat.beq z size then some (.slice (some ⟨r,bif mx.isSome&&Nat.beq b.2.2 b.1 then o else o+b.1*size,none⟩) (b.2.1-b.1) (b.2.2-b.1))else none
    |_=>none
 | .slice e,.slice none len cap=>bif !Nat.ble len cap then none else(bounds len cap lo hi mx).bind fun b=>(E.size e).bind fun _=>some (.slice none (b.2.1-b.1) (b.2.2-b.1))
 | .array n e,.pointer (some ⟨r,o,none⟩)=>
   (bounds n n lo hi mx).bind fun b=>(E.size e).bind fun size=>
    match H.objs.get r with
    |some (.row _ none _)=>some (.slice (some ⟨r,bif Nat.beq b.2.2 b.1 then o else o+b.1*size,none⟩) (b.2.1-b.1) (b.2.2-b.1))
    |_=>none
 |_,_=>none
def fieldAddrV(E:Env)(s:TypeId)(x:Value)(f:Nat):Option Value:=
 (E.ty.get s).bind fun i=>
 match i.desc,x with
 | .struct fs,.pointer (some ⟨r,o,none⟩)=>
   (fs.toList[f]?).bind fun f=>(E.size f.type).bind fun n=>bif Nat.beq n 0 then none else some (ptr r (o+f.offset))
 |_,_=>none
def indexAddrV(E:Env)(t:TypeId)(x ix:Value):Option Value:=
 (E.ty.get t).bind fun i=>
 match i.desc,x,ix with
 | .slice e,.slice (some ⟨r,o,none⟩) len _,.int _ n=>(at? n len).bind fun n=>(E.size e).bind fun s=>some (ptr r (o+n*s))
 | .array len e,.pointer (some ⟨r,o,none⟩),.int _ n=>(at? n len).bind fun n=>(E.size e).bind fun s=>some (ptr r (o+n*s))
 |_,_,_=>none
def fieldV(E:Env)(t:TypeId)(x:Value)(f:Nat):Option Value:=
 (E.ty.get t).bind fun i=>
 match i.desc,x with
 | .struct fs,.agg cs=>(fs.toList[f]?).bind fun f=>jC E f.type cs.toList f.offset
 |_,_=>none
def indexV(E:Env)(t:TypeId)(x ix:Value):Option Value:=
 (E.ty.get t).bind fun i=>
 match i.desc,x,ix with
 | .array len e,.agg cs,.int _ n=>(at? n len).bind fun n=>(E.size e).bind fun s=>jC E e cs.toList (n*s)
 | .string,.string s,.int _ n=>(at? n s.size).bind fun n=>(s.data.toList[n]?).bind fun b=>some (.int .u8 b.toNat)
 |_,_,_=>none
def minV:Value→List Value→Option Value
 |x,[]=>some x
 | .int k a,.int _ b::l=>minV (.int k (bif mI b a then b else a)) l
 |_,_=>none
def x6:Value→List Value→Option Value
 |x,[]=>some x
 | .int k a,.int _ b::l=>x6 (.int k (bif mI a b then b else a)) l
 |_,_=>none
def loadV(E:Env)(H:Heap)(t:TypeId)(x:Value):Option Value:=
 match x with
 | .pointer (some ⟨r,o,none⟩)=>
   match H.objs.get r with
   |some (.row cells _ _)=>(E.ty.get t).bind fun i=>bif i.agg then(cut cells o i.size).bind fun l=>some (.agg l.toArray)else cells[o]?
   |_=>none
 |_=>none
def tI(E:Env)(H:Heap)(t:TypeId)(x v:Value):Option Heap:=
 match x with
 | .pointer (some ⟨r,o,none⟩)=>
   (E.size t).bind fun n=>let l:=cg v;bif Nat.beq l.length n then H.write r o l else none
 |_=>none
def cellsOf(H:Heap)(n:Nat):Value→Option (List Value)
 | .slice none _ _=>bif Nat.beq n 0 then some []else none
 | .slice (some ⟨r,o,none⟩) _ _=>
   match H.objs.get r with
   |some (.row cells _ _)=>cut cells o n
   |_=>none
 |_=>none
def Heap.dd(H:Heap)(z:Nat)(cells:List Value):Heap:=
 forceNat H.next fun n=>(H.objs.set n (.row cells (some (n,z)) true)).force fun t=>(H.grps.set n []).force fun gs=>{objs:=t,grps:=gs,next:=n+1,lo:=H.lo}
def Heap.grow(H:Heap)(r:Nat)(cells:List Value)(g z:Nat)(new:List Value):Option Heap:=
 match H.grps.get g with
 |none=>none
 |some aT=>forceNat H.next fun n=>((H.objs.set r (.row cells (some (g,z)) false)).set n (.row new (some (g,z)) true)).force fun t=>
   (H.grps.set g (r::aT)).force fun gs=>some {objs:=t,grps:=gs,next:=n+1,lo:=H.lo}
def tn(i:TI)(dC:Nat):Bool:=
 match i.zero with
 |some z=> !Nat.beq i.size 0&&Nat.ble (dC*i.bytes) 10000000000&&Nat.ble dC 1000000000&&Nat.beq (cg z).length i.size
 |none=>false
def appendV(E:Env)(H:Heap)(e:TypeId)(s:Value)(k:Nat)(new:List Value):Option (Value×Heap):=
 (E.ty.get e).bind fun i=>
 match s with
 | .slice none len cap=>
   bif Nat.ble (len+k) cap then some (.slice none (len+k) cap,H)
   else bif !tn i (len+k)|| !Nat.beq len 0 then none
   else some (.slice (some ⟨H.next,0,none⟩) (len+k) (len+k),H.dd i.size new)
 | .slice (some ⟨r,o,none⟩) len cap=>
   bif Nat.ble (len+k) cap then
    bif Nat.beq k 0 then some (.slice (some ⟨r,o,none⟩) (len+k) cap,H)
    else(H.write r (o+len*i.size) new).bind fun H=>some (.slice (some ⟨r,o,none⟩) (len+k) cap,H)
   else bif !tn i (len+k)then none
   else
    match H.objs.get r with
    |some (.row cells none _)=>
     (cut cells o (len*i.size)).bind fun l=>some (.slice (some ⟨H.next,0,none⟩) (len+k) (len+k),H.dd i.size (l++new))
    |some (.row cells (some (g,z)) true)=>
     bif Nat.beq (o+len*i.size) cells.length&&Nat.ble H.lo r&&Nat.beq z i.size&&new.all isCell then
      (cut cells o (len*i.size)).bind fun l=>(H.grow r cells g z (l++new)).bind fun H'=>some (.slice (some ⟨H.next,0,none⟩) (len+k) (len+k),H')
     else none
    |_=>none
 |_=>none
def Di(E:Env)(e:TypeId)(n:Nat):Option (List Value):=
 (E.ty.get e).bind fun i=>i.zero.bind fun z=>some (df (cg z) n)
def makeSliceV(E:Env)(H:Heap)(t:TypeId)(len cap:Value):Option (Value×Heap):=
 (E.ty.get t).bind fun i=>
 match i.desc,len,cap with
 | .slice e,.int _ l,.int _ c=>
   match l,c with
   | .ofNat l,.ofNat c=>
     (E.ty.get e).bind fun j=>j.zero.bind fun z=>
      bif Nat.ble l c&&Nat.ble c 1000000000&&Nat.ble (c*j.bytes) 10000000000&& !Nat.beq j.size 0&&Nat.beq (cg z).length j.size
      then some (.slice (some ⟨H.next,0,none⟩) l c,H.newRow (df (cg z) c))else none
   |_,_=>none
 |_,_,_=>none
def plainKey(E:Env)(t:TypeId)(k:Value):Bool:=
 match E.ty.get t with
 |some i=>
  match i.desc,k with
  | .int _,.int _ _=>true
  | .string,.string _=>true
  | .bool,.bool _=>true
  |_,_=>false
 |none=>false
def keyEq:Value→Value→Option Bool
 | .int k a,.int k' b=>bif sameKind k k' then some (eqI a b)else none
 | .string a,.string b=>some (mJ a b)
 | .bool a,.bool b=>some (a==b)
 |_,_=>none
def findV(k:Value):List (Value×Value)→Nat→Option (Option (Nat×Value))
 |[],_=>some none
 |e::es,i=>(keyEq k e.1).bind fun b=>
  match b with
  |true=>some (some (i,e.2))
  |false=>findV k es (i+1)
def lookupV(E:Env)(H:Heap)(t:TypeId)(m k:Value)(ok:Bool):Option Value:=
 (E.ty.get t).bind fun i=>
 match i.desc with
 | .map kt et=>
   bif !plainKey E kt k then none else
   (match m with
    | .map none=>some []
    | .map (some r)=>match H.objs.get r with
      |some (.map es)=>some es
      |some (.lh es _)=>some (es.map Prod.fst)
      |_=>none
    |_=>none).bind fun es=>(findV k es 0).bind fun f=>
     match f with
     |some (_,v)=>some (bif ok then .tuple #[v,.bool true]else v)
     |none=>(E.ty.get et).bind fun j=>j.zero.bind fun z=>some (bif ok then .tuple #[z,.bool false]else z)
 |_=>none
def setVal(v:Value):List (Value×Value)→Nat→List (Value×Value)
 |[],_=>[]
 |e::es,0=>(e.1,v)::es
 |e::es,i+1=>e::setVal v es i
def Heap.pv(H:Heap)(r:Nat)(es:List (Value×Value)):Option Heap:=
 bif !Nat.ble H.lo r then none else(H.objs.set r (.map es)).force fun t=>some {objs:=t,grps:=H.grps,next:=H.next,lo:=H.lo}
def mapUpdateV(E:Env)(H:Heap)(t:TypeId)(m k v:Value):Option Heap:=
 (E.ty.get t).bind fun i=>
 match i.desc,m with
 | .map kt _,.map (some r)=>
   bif !plainKey E kt k then none else
   match H.objs.get r with
   |some (.map es)=>(findV k es 0).bind fun f=>
    match f with
    |some (i,_)=>H.pv r (setVal v es i)
    |none=>H.pv r (es++[(k,v)])
   |_=>none
 |_,_=>none
def tJ:List (Value×Value)→Nat→List ((Value×Value)×Nat)
 |[],_=>[]
 |e::l,i=>(e,i)::tJ l (i+1)
def mapOf(H:Heap)(r:Nat):Option (List ((Value×Value)×Nat)×Nat):=
 match H.objs.get r with
 |some (.map es)=>some (tJ es 0,es.length)
 |some (.lh es c)=>some (es,c)
 |_=>none
def Heap.Gc(H:Heap)(r:Nat)(es:List ((Value×Value)×Nat))(c:Nat):Option Heap:=
 bif !Nat.ble H.lo r then none else(H.objs.set r (.lh es c)).force fun t=>some {objs:=t,grps:=H.grps,next:=H.next,lo:=H.lo}
def Ao(E:Env)(H:Heap)(t:TypeId)(m k:Value):Option Heap:=
 (E.ty.get t).bind fun i=>
 match i.desc,m with
 | .map kt _,.map (some r)=>
   bif !plainKey E kt k then none else
   (mapOf H r).bind fun p=>(findV k (p.1.map Prod.fst) 0).bind fun f=>
    match f with
    |some (j,_)=>H.Gc r (p.1.eraseIdx j) p.2
    |none=>some H
 |_,_=>none
def entriesOf(H:Heap):Option Nat→Option (List (Value×Value))
 |none=>some []
 |some m=>match H.objs.get m with
  |some (.map es)=>some es
  |_=>none
def entryV(H:Heap)(it:Value):Option Value:=
 match it with
 | .pointer (some ⟨r,0,none⟩)=>
   match H.objs.get r with
   |some (.iter m n (.told i))=>(entriesOf H m).bind fun es=>bif Nat.beq es.length n then(es[i]?).bind fun e=>some (.tuple #[e.1,e.2])else none
   |some (.lJ m _ seen last)=>(match H.objs.get m with
    |some (.lh es c)=>bif Nat.beq c last then(seen.getLast?).bind fun s=>(es.find? fun e=>Nat.beq e.2 s).bind fun e=>some (.tuple #[e.1.1,e.1.2])else none
    |_=>none)
   |_=>none
 |_=>none
def gOf(H:Heap):Option Nat→Option (Nat×Nat)
 |some r=>match H.objs.get r with
  |some (.lh _ c)=>some (r,c)
  |_=>none
 |none=>none
def qt(n:Nat):List Nat→Bool
 |[]=>false
 |x::l=>Nat.beq x n||qt n l
def nextG(H:Heap)(it:Value):Option (Value×Heap):=
 match it with
 | .pointer (some ⟨r,0,none⟩)=>
   match H.objs.get r with
   |some (.lJ m lK seen last)=>bif !Nat.ble H.lo r then none else
    match H.objs.get m with
    |some (.lh es c)=>
     bif !seen.isEmpty&&(!es.isEmpty&&es.all fun e=>Nat.ble last e.2)then none else
     match es.filter fun e=> !qt e.2 seen with
     |[]=>some (.tuple #[.bool false],H)
     |[e]=>bif Nat.blt e.2 lK then some (.tuple #[.bool true,e.1.1,e.1.2],H.setObj r (.lJ m lK (seen++[e.2]) c))else none
     |_=>none
    |_=>none
   |_=>none
 |_=>none
def rangeO(H:Heap)(d:TypeDesc)(x:Value):Option AObj:=
 match d,x with
 | .map _ _,.map m=>(match gOf H m with
   |some p=>some (.lJ p.1 p.2 [] p.2)
   |none=>(entriesOf H m).bind fun es=>some (.iter m es.length .start))
 | .string,.string s=>some (.po s 0)
 |_,_=>none
def nextC(s:ByteArray)(pos:Nat):Option (Nat×Nat):=
 match s.data.toList[pos]? with
 |none=>none
 |some b=>bif Nat.blt b.toNat 128 then some (b.toNat,pos+1)else some ((Utf8.decode s pos).1,pos+(Utf8.decode s pos).2)
def nextV(H:Heap)(it:Value):Option (Value×Heap):=
 match it with
 | .pointer (some ⟨r,0,none⟩)=>
   match H.objs.get r with
   |some (.po s pos)=>bif !Nat.ble H.lo r then none else
    match nextC s pos with
    |none=>some (.tuple #[.bool false],H)
    |some c=>forceNat c.1 fun a=>forceNat c.2 fun p=>some (.tuple #[.bool true,.int .i64 pos,.int .i32 a],H.setObj r (.po s p))
   |_=>none
 |_=>none
def builtinV(E:Env)(H:Heap)(b:Builtin)(ts:List TypeId)(args:List Value):Option (Value×Heap):=
 match b,ts,args with
 | .len,t::_,x::_=>
   (E.ty.get t).bind fun i=>
   match i.desc,x with
   | .string,.string s=>some (.int .i64 s.size,H)
   | .array n _,_=>some (.int .i64 n,H)
   | .slice _,.slice _ n _=>some (.int .i64 n,H)
   | .map _ _,.map none=>some (.int .i64 0,H)
   | .map _ _,.map (some r)=>match H.objs.get r with
     |some (.map es)=>some (.int .i64 es.length,H)
     |_=>none
   |_,_=>none
 | .min,_,x::l=>(minV x l).bind fun v=>some (v,H)
 | .max,_,x::l=>(x6 x l).bind fun v=>some (v,H)
 | .append,t::t'::_,s::x::_=>
   (E.ty.get t).bind fun i=>(E.ty.get t').bind fun i'=>
   match i.desc with
   | .slice e=>
     match i'.desc,x with
     | .int _,.int _ n=>(to? n 1000000000).bind fun n=>(Di E e n).bind fun l=>(E.ty.get e).bind fun j=>bif Nat.beq l.length (n*j.size)&&Nat.ble (n*j.bytes) 10000000000 then appendV E H e s n l else none
     | .slice _,.slice _ n _=>(E.size e).bind fun z=>(cellsOf H (n*z) x).bind fun l=>appendV E H e s n l
     |_,_=>none
   |_=>none
 | .copy,t::_,d::x::_=>
   (E.ty.get t).bind fun i=>
   match i.desc,d,x with
   | .slice e,.slice base dl _,.slice _ n _=>(E.size e).bind fun z=>(cellsOf H (Nat.min n dl*z) x).bind fun l=>
     match base with
     |none=>some (.int .i64 (Nat.min n dl),H)
     |some ⟨r,o,none⟩=>(H.write r o l).bind fun H=>some (.int .i64 (Nat.min n dl),H)
     |_=>none
   |_,_,_=>none
 | .delete,t::_,x::k::_=>(Ao E H t x k).bind fun H=>some (.tuple #[],H)
 | .clear,t::_,x::_=>
   (E.ty.get t).bind fun i=>
   match i.desc,x with
   | .slice _,.slice none _ _=>some (.tuple #[],H)
   | .slice e,.slice (some ⟨r,o,none⟩) n _=>(Di E e n).bind fun l=>(H.write r o l).bind fun H=>some (.tuple #[],H)
   |_,_=>none
 |_,_,_=>none
def convV(E:Env)(src dst:TypeId)(x:Value):Option Value:=
 (E.ty.get src).bind fun i=>(E.ty.get dst).bind fun j=>
 match i.desc,j.desc,x with
 |_,.int k,.int _ n=>gC k n
 |_,.string,.string s=>some (.string s)
 |_,_,_=>none
def bytesOf:List Value→Option (List Int)
 |[]=>some []
 | .int .u8 n::l=>(bytesOf l).bind fun r=>some (n::r)
 |_=>none
def K8(ns:List Int):ByteArray:=ns.foldl (fun r n=>r.push (UInt8.ofNat n.toNat)) ByteArray.empty
def bytesStrV(E:Env)(H:Heap)(s d:TypeId)(x:Value):Option Value:=
 (E.ty.get s).bind fun i=>(E.ty.get d).bind fun j=>
 match i.desc,j.desc,x with
 | .slice e,.string,.slice (some a) n c=>(E.ty.get e).bind fun k=>
   match k.desc with
   | .int .u8=>(cellsOf H n (.slice (some a) n c)).bind fun l=>(bytesOf l).bind fun ns=>some (.string (K8 ns))
   |_=>none
 |_,_,_=>none
def qu(E:Env)(H:Heap)(s d:TypeId)(x:Value):Option Value:=bif Nat.beq s BT then bytesStrV E H s d x else convV E s d x
structure Fr where
 T:Tr Value
 size:Nat
 marks:List Nat
 round:Option Nat
inductive Ex where
 |normal
 |exit (id:Nat)
 |ret
abbrev cT:=Value→List Value→Heap→Option (Value×Heap)
def methodOf(E:Env)(x:Value)(name:String):Option (FuncId×Value):=
 match x with
 | .iface t v=>
   (E.P.info? t).bind fun i=>(i.methods.find? (·.name==name)).bind fun m=>
    match m.path.toList,m.func with
    |[],some (f,pr)=>(E.ty.get t).bind fun j=>
     match j.desc,pr with
     | .pointer _,true=>some (f,v)
     | .pointer _,false=>none
     |_,false=>some (f,v)
     |_,true=>none
    |_,_=>none
 |_=>none
def target(E:Env)(f:Value)(args:List Value):Option (Fn×List Value):=
 match f with
 | .func (.func g) first captured=>some (.func g,first.toList++args++captured.toList)
 | .func (.yield l) first _=>some (.yield l,first.toList++args)
 | .func (.via t path g p) first _=>
   bif path.toList.isEmpty&&p&&(match E.ty.get t with|some i=>(match i.desc with| .pointer _=>true|_=>false)|none=>false)then(match first.toList++args with|[]=>none|l=>some (.func g,l))else none
 | .func (.method name) first _=>match first.toList++args with
   |[]=>none
   |x::l=>(methodOf E x name).bind fun m=>some (.func m.1,m.2::l)
 |_=>none
def exOp(E:Env)(call:cT)(T:Tr Value)(o:Oper)(H:Heap):Option (Value×Heap):=
 match o.op with
 | .move x=>(ev T x).bind fun v=>some (v,H)
 | .assign x=>(ev T x).bind fun v=>some (v,H)
 | .pick c a b=>(ev T c).bind fun c=>
   match c with
   | .bool true=>(ev T a).bind fun v=>some (v,H)
   | .bool false=>(ev T b).bind fun v=>some (v,H)
   |_=>none
 | .alloc t=>(E.ty.get t).bind fun i=>i.zero.bind fun z=>some (ptr H.next 0,H.newRow (cg z))
 | .box _ x=>(ev T x).bind fun v=>some (ptr H.next 0,H.newRow (cg v))
 | .build t parts=>(gD E T t parts.toList).bind fun v=>some (v,H)
 | .buildSlice t len parts=>
   (E.ty.get t).bind fun i=>
   match i.desc with
   | .slice e=>(E.ty.get e).bind fun j=>j.zero.bind fun z=>
     bif !Nat.beq (cg z).length j.size|| !Nat.ble (len*j.size) 10000000||Nat.beq j.size 0 then none else
     (evParts T (fun k=>some (k*j.size,j.size)) parts.toList).bind fun ps=>(fillV (df (cg z) len) ps).bind fun l=>
      some (.slice (some ⟨H.next,0,none⟩) len len,H.newRow l)
   |_=>none
 | .load t a=>(ev T a).bind fun a=>(loadV E H t a).bind fun v=>some (v,H)
 | .store t a x=>(ev T a).bind fun a=>(ev T x).bind fun x=>(tI E H t a x).bind fun H=>some (undef,H)
 | .nilCheck x=>(ev T x).bind fun v=>
   match v with
   | .pointer (some _)=>some (v,H)
   | .func (.func _) _ _=>some (v,H)
   | .func (.yield _) _ _=>some (v,H)
   | .func (.via ..) _ _=>some (v,H)
   | .func (.method name) first _=>(match first.toList with
     |x::_=>(methodOf E x name).bind fun _=>some (v,H)
     |[]=>none)
   | .iface _ _=>some (v,H)
   |_=>none
 | .binOp op t x y _=>(ev T x).bind fun a=>(ev T y).bind fun b=>(binV E op t x y a b).bind fun v=>some (v,H)
 | .unOp op _ x=>(ev T x).bind fun a=>(unV op a).bind fun v=>some (v,H)
 | .convert s d x=>(ev T x).bind fun a=>(qu E H s d a).bind fun v=>some (v,H)
 | .makeInterface t x=>(ev T x).bind fun a=>(E.ty.get t).bind fun i=>
   match i.desc with
   | .interface _=>none
   | .invalid=>none
   |_=>some (.iface t a,H)
 | .makeFunc fn first captured=>
   match fn with
   | .yield _=>none
   |_=>(evs T first.toList).bind fun fs=>(evs T captured.toList).bind fun cs=>some (.func fn fs.toArray cs.toArray,H)
 | .makeMap _ none=>some (.map (some H.next),H.add (.map []))
 | .makeSlice t l c=>(ev T l).bind fun l=>(ev T c).bind fun c=>makeSliceV E H t l c
 | .slice t x lo hi mx=>(ev T x).bind fun x=>(evO T lo).bind fun lo=>(evO T hi).bind fun hi=>(evO T mx).bind fun mx=>(sliceV E H t x lo hi mx).bind fun v=>some (v,H)
 | .fieldAddr s x f=>(ev T x).bind fun x=>(fieldAddrV E s x f).bind fun v=>some (v,H)
 | .field t x f=>(ev T x).bind fun x=>(fieldV E t x f).bind fun v=>some (v,H)
 | .indexAddr t x i=>(ev T x).bind fun x=>(ev T i).bind fun i=>(indexAddrV E t x i).bind fun v=>some (v,H)
 | .index t x i=>(ev T x).bind fun x=>(ev T i).bind fun i=>(indexV E t x i).bind fun v=>some (v,H)
 | .lookup t x i ok=>(ev T x).bind fun x=>(ev T i).bind fun i=>(lookupV E H t x i ok).bind fun v=>some (v,H)
 | .mapUpdate t m k x=>(ev T m).bind fun m=>(ev T k).bind fun k=>(ev T x).bind fun x=>(mapUpdateV E H t m k x).bind fun H=>some (undef,H)
 | .range t x=>(ev T x).bind fun x=>(E.ty.get t).bind fun i=>(rangeO H i.desc x).bind fun o=>some (ptr H.next 0,H.add o)
 | .next it true=>(ev T it).bind fun it=>nextV H it
 | .next it false=>(ev T it).bind fun it=>nextG H it
 | .entry it=>(ev T it).bind fun it=>(entryV H it).bind fun v=>some (v,H)
 | .extract t ix=>(ev T t).bind fun t=>
   match t with
   | .tuple vs=>(vs.toList[ix]?).bind fun v=>some (v,H)
   |_=>none
 | .call c=>
   (evs T c.args.toList).bind fun args=>
   match c.callee with
   | .builtin b=>builtinV E H b c.argTypes.toList args
   | .value f=>(ev T f).bind fun f=>call f args H
   | .invoke x name=>(ev T x).bind fun x=>(methodOf E x name).bind fun m=>call (.func (.func m.1) #[] #[]) (m.2::args) H
 |_=>none
def wantedA(T:Tr Value)(ops:List Oper)(o:Oper):Option Bool:=
 match o.guard with
 |none=>some true
 |some (j,want)=>
  match(ops[j]?).bind (·.dst)with
  |none=>none
  |some d=>match T.get d with
   |some (.bool b)=>some (b==want)
   |some (.tuple _)=>some false
   |_=>none
def gQ(size:Nat)(T:Tr Value)(dst:Option Tmp)(v:Value):Option (Tr Value):=
 match dst with
 |none=>some T
 |some d=>bif Nat.blt d size then(T.set d v).force fun t=>some t else none
inductive Kind where
 |pure|alloc|load|store|call
def kindOf:Op→Kind
 | .alloc .. | .box .. | .buildSlice .. | .makeSlice .. | .makeMap .. => .alloc
 | .load .. | .lookup .. | .slice .. => .load
 | .store .. => .store
 | .mapUpdate .. | .range .. | .entry .. | .next .. => .call
 | .convert s _ _=>bif Nat.beq s BT then .call else .pure
 | .call c=>match c.callee with
   | .builtin .len=> .load
   | .builtin .min| .builtin .max=> .pure
   |_=> .call
 |_=> .pure
structure Info where
 grow:Bool
 apart:List Op
 cJ:List (TypeId×Tmp×Tmp)
def isLoad:Kind→Bool
 | .load=>true
 |_=>false
def tmpsOf:List Operand→List Tmp
 |[]=>[]
 | .tmp t::l=>t::tmpsOf l
 |_::l=>tmpsOf l
def Ll(ops:List Oper)(o:Oper):Option Tmp:=
 match o.guard with
 |none=>none
 |some (j,_)=>(ops[j]?).bind (·.dst)
def looksOf(ops:List Oper)(o:Oper):List Tmp:=
 match Ll ops o with
 |some d=>d::tmpsOf o.op.operands.toList
 |none=>tmpsOf o.op.operands.toList
def ordered(b:List Nat)(i j:Nat):Bool:=(b.getD i 0).testBit j||(b.getD j 0).testBit i
def mK(o:Oper)(t:Tmp):Bool:=
 match o.dst with
 |some d=>Nat.beq d t
 |none=>false
def tK(m k:Nat):Bool:=Nat.beq (Nat.land 1 (Nat.shiftRight m k)) 1
def maskT:List Tmp→Nat
 |[]=>0
 |x::l=>Nat.lor (Nat.shiftLeft 1 x) (maskT l)
def tmpsOk(ns:Nat)(b:List Nat)(i:Nat):List Oper→Nat→Bool
 |[],_=>true
 |p::l,n=>
  (match p.dst with
   |some d=> !tK ns d||Nat.beq n i||ordered b i n
   |none=>true)&&tmpsOk ns b i l (n+1)
def effOk(store:Bool)(b:List Nat)(i:Nat):List Oper→Nat→Bool
 |[],_=>true
 |p::l,n=>
  (Nat.beq n i||ordered b i n||(match kindOf p.op with
   | .pure=>true
   | .alloc=>Nat.blt i n
   | .load=> !store||(Nat.blt n i&&(match p.op with
     | .load _ (.tmp t)=> !mK p t&&l.all fun q=> !mK q t
     | .slice _ (.tmp t) _ _ _=> !mK p t&&l.all fun q=> !mK q t
     |_=>false))
   | .store=>false
   | .call=>false))&&effOk store b i l (n+1)
def nL(b:List Nat)(i:Nat):List Oper→Nat→List Op
 |[],_=>[]
 |p::l,n=>bif Nat.beq n i||ordered b i n|| !isLoad (kindOf p.op)then nL b i l (n+1)else p.op::nL b i l (n+1)
def edgesOk(n:Nat)(i:Nat):List Edge→Bool
 |[]=>true
 |e::l=>(match e.ground with
  | .gcOnly _=>Nat.blt e.on n
  |_=>Nat.blt e.on i)&&edgesOk n i l
def keepsOf(b:List Nat)(i:Nat):List Oper→Nat→Option (List (TypeId×Tmp×Tmp))
 |[],_=>some []
 |p::l,n=>bif Nat.beq n i||ordered b i n|| !isLoad (kindOf p.op)then keepsOf b i l (n+1)else
  match p.op,p.dst with
  | .load ty (.tmp t),some d=>bif Nat.blt n i&& !mK p t&&(l.all fun q=> !mK q t&& !mK q d)then(keepsOf b i l (n+1)).bind fun r=>some ((ty,t,d)::r)else none
  |_,_=>none
def Tu:Nat→Nat→Bool
 |8,4=>true
 |9,4=>true
 |10,3=>true
 |10,7=>true
 |_,_=>false
def Gd(ops:List Oper)(b:List Nat)(n i:Nat):Option (List (TypeId×Tmp×Tmp)):=bif Tu n i then keepsOf b i ops 0 else none
def uQ:Nat→Nat→Bool
 |35,9=>true
 |35,19=>true
 |22,8=>true
 |_,_=>false
def appOf:Op→Option (List Operand)
 | .call c=>match c.callee with
   | .builtin .append=>some c.args.toList
   |_=>none
 |_=>none
def lateOk(b:List Nat)(i:Nat):List Oper→Nat→Bool
 |[],_=>true
 |p::l,n=>(Nat.beq n i||ordered b i n|| !isLoad (kindOf p.op)||(Nat.blt i n&&(match p.op with
  | .load _ _=>true
  |_=>false)))&&lateOk b i l (n+1)
def oF(ops:List Oper)(b:List Nat)(n i:Nat)(o:Oper):Bool:=uQ n i&&(appOf o.op).isSome&&lateOk b i ops 0
def rN(ops:List Oper)(b:List Nat)(n i:Nat):List Oper→Nat→List Op
 |[],_=>[]
 |p::l,k=>bif Nat.blt k i&&uQ n k&&oF ops b n k p&& !ordered b k i then p.op::rN ops b n i l (k+1)else rN ops b n i l (k+1)
def infoAt(ops:List Oper)(b:List Nat)(n i:Nat)(o:Oper):Option Info:=
 bif edgesOk n i o.after.toList&&tmpsOk (maskT ((match o.dst with|some d=>[d]|none=>[])++looksOf ops o)) b i ops 0 then
  match kindOf o.op with
  | .store=>bif effOk true b i ops 0 then some {grow:=false,apart:=nL b i ops 0,cJ:=[]}else none
  | .call=>bif effOk false b i ops 0 then(match Gd ops b n i with
    |some ks=>some {grow:=false,apart:=[],cJ:=ks}
    |none=>bif oF ops b n i o then some {grow:=false,apart:=nL b i ops 0,cJ:=[]}else some {grow:= !(nL b i ops 0).isEmpty,apart:=[],cJ:=[]})else none
  | .load=>some {grow:=false,apart:=rN ops b n i ops 0,cJ:=[]}
  |_=>some {grow:=false,apart:=[],cJ:=[]}
 else none
def uR(ops:List Oper)(b:List Nat)(n:Nat):List Oper→Nat→Option (List Info)
 |[],_=>some []
 |o::l,i=>(infoAt ops b n i o).bind fun x=>(uR ops b n l (i+1)).bind fun r=>some (x::r)
def bindsGc(e:Edge):Bool:=
 match e.ground with
 | .textOnly _=>false
 |_=>true
def Ap(m:Nat):List Edge→Bool
 |[]=>true
 |e::l=>(!bindsGc e||tK m e.on)&&Ap m l
def gcPass:List Oper→Nat→Nat→Nat
 |[],_,m=>m
 |o::l,i,m=>bif tK m i then gcPass l (i+1) m else bif Ap m o.after.toList then forceNat (Nat.lor m (Nat.shiftLeft 1 i)) fun m=>gcPass l (i+1) m else gcPass l (i+1) m
def gcOk(ops:List Oper)(n:Nat):Nat→Nat→Bool
 |0,_=>false
 |k+1,m=>forceNat (gcPass ops 0 m) fun m=>bif Nat.beq m (Nat.sub (Nat.shiftLeft 1 n) 1)then true else gcOk ops n k m
def x7(ops:Array Oper):Option (List Info):=
 bif gcOk ops.toList ops.size 20 0 then uR ops.toList (Region.before ops).toList ops.size ops.toList 0 else none
def footOf(E:Env)(T:Tr Value):Op→Option (Nat×Nat×Nat)
 | .load t a=>(ev T a).bind fun a=>(E.ty.get t).bind fun i=>
   match a with
   | .pointer (some ⟨r,o,none⟩)=>some (r,o,bif i.agg then i.size else 1)
   |_=>none
 | .slice _ x _ _ _=>(ev T x).bind fun a=>
   match a with
   | .slice (some ⟨r,_,none⟩) _ _=>some (r,0,0)
   | .pointer (some ⟨r,_,none⟩)=>some (r,0,0)
   |_=>none
 | .store t a _=>(ev T a).bind fun a=>(E.size t).bind fun n=>
   match a with
   | .pointer (some ⟨r,o,none⟩)=>some (r,o,n)
   |_=>none
 |_=>none
def apartFrom(E:Env)(T:Tr Value)(H:Heap)(r o n:Nat):List Op→Bool
 |[]=>true
 |p::l=>
  (match footOf E T p with
   |some (r',o',n')=>bif Nat.beq r r' then Nat.ble (o+n) o'||Nat.ble (o'+n') o else(H.objs.get r').isSome
   |none=>true)&&apartFrom E T H r o n l
def lateBase(T:Tr Value)(H:Heap):List Operand→Bool
 |a::_=>(match ev T a with
  |some (.slice none _ _)=>true
  |some (.slice (some ⟨r,_,none⟩) _ _)=>(match H.objs.get r with
   |some (.row _ (some _) _)=>true
   |_=>false)
  |_=>false)
 |[]=>false
def storeApart(E:Env)(T:Tr Value)(H:Heap)(o:Op):List Op→Bool
 |[]=>true
 |l=>match appOf o with
  |some args=>lateBase T H args
  |none=>match footOf E T o with
   |some (r,k,n)=>(match H.objs.get r with
    |some (.row _ none _)=>apartFrom E T H r k n l
    |_=>false)
   |none=>false
def same1:Value→Value→Bool
 | .bool true,.bool true=>true
 | .bool false,.bool false=>true
 | .int k a,.int k' b=>sameKind k k'&&eqI a b
 | .string a,.string b=>mJ a b
 | .pointer none,.pointer none=>true
 | .pointer (some ⟨r,o,none⟩),.pointer (some ⟨r',o',none⟩)=>Nat.beq r r'&&Nat.beq o o'
 | .slice none l c,.slice none l' c'=>Nat.beq l l'&&Nat.beq c c'
 | .slice (some ⟨r,o,none⟩) l c,.slice (some ⟨r',o',none⟩) l' c'=>Nat.beq r r'&&Nat.beq o o'&&Nat.beq l l'&&Nat.beq c c'
 | .map none,.map none=>true
 | .map (some r),.map (some r')=>Nat.beq r r'
 | .nilFunc,.nilFunc=>true
 | .nilIface,.nilIface=>true
 |_,_=>false
def sameL:List Value→List Value→Bool
 |[],[]=>true
 |x::l,y::r=>same1 x y&&sameL l r
 |_,_=>false
def sameV:Value→Value→Bool
 | .agg x,.agg y=>sameL x.toList y.toList
 |x,y=>same1 x y
def keepOk(E:Env)(T:Tr Value)(H':Heap):List (TypeId×Tmp×Tmp)→Bool
 |[]=>true
 |(ty,t,d)::l=>
  (match T.get t with
   |some a=>(match T.get d with
    |some u=>(match loadV E H' ty a with
     |some u'=>sameV u u'
     |none=>false)
    |none=>false)
   |none=>false)&&keepOk E T H' l
def Dj{β:Type}(H:Heap)(f:Heap→β):β:=
 H.objs.force fun o=>H.grps.force fun g=>forceNat H.next fun n=>forceNat H.lo fun l=>f {objs:=o,grps:=g,next:=n,lo:=l}
def exOps(E:Env)(call:cT)(all:List Oper)(size:Nat):List Oper→Tr Value→Heap→Option (Tr Value×Heap)
 |[],T,H=>some (T,H)
 |o::rest,T,H=>
  match wantedA T all o with
  |none=>none
  |some true=>(exOp E call T o H).bind fun r=>(gQ size T o.dst r.1).bind fun T=>Dj r.2 fun H=>exOps E call all size rest T H
  |some false=>(gQ size T o.dst undef).bind fun T=>exOps E call all size rest T H
def exDraw(E:Env)(call:cT)(all:List Oper)(size:Nat):List Oper→List Info→Tr Value→Heap→Option (Tr Value×Heap)
 |[],_,T,H=>some (T,H)
 |o::rest,i::a9,T,H=>
  match wantedA T all o with
  |none=>none
  |some true=>
   bif storeApart E T H o.op i.apart then
    (exOp E call T o {objs:=H.objs,grps:=H.grps,next:=H.next,lo:=bif i.grow then H.next else H.lo}).bind fun r=>bif keepOk E T r.2 i.cJ then(gQ size T o.dst r.1).bind fun T'=>
     Dj {objs:=r.2.objs,grps:=r.2.grps,next:=r.2.next,lo:=H.lo} fun H=>exDraw E call all size rest a9 T' H else none
   else none
  |some false=>(gQ size T o.dst undef).bind fun T=>exDraw E call all size rest a9 T H
 |_::_,[],_,_=>none
def rO(E:Env)(call:cT)(ops:Array Oper)(size:Nat)(T:Tr Value)(H:Heap):Option (Tr Value×Heap):=
 bif !Maps.nM size then none else
 (x7 ops).bind fun a9=>(exDraw E call ops.toList size ops.toList a9 T H).bind fun r=>bif Maps.nM r.2.next then some r else none
def paramsT(size:Nat):List Tmp→List Value→Tr Value→Option (Tr Value)
 |p::ps,v::vs,T=>bif Nat.blt p size then paramsT size ps vs (T.set p v)else none
 |[],[],T=>some T
 |_,_,_=>none
def Heap.setLoop(H:Heap)(l:Nat)(ready:Bool)(st:LoopState)(fK:Option Code):Option Heap:=
 match H.objs.get l with
 |some (.loop KV FU size tmps params assign body defers)=>
  match ready,KV with
  |true,.ready=>some (H.setObj l (.loop st FU size tmps params assign body defers))
  |true,_=>none
  |false,_=>some (H.setObj l (.loop st fK size tmps params assign body defers))
 |_=>none
def resultsV(E:Env)(H:Heap)(T:Tr Value):List ResultVar→Option (List Value)
 |[]=>some []
 | .tmp t::l=>(T.get t).bind fun v=>(resultsV E H T l).bind fun r=>some (v::r)
 | .cell a t::l=>(T.get a).bind fun a=>(loadV E H t a).bind fun v=>(resultsV E H T l).bind fun r=>some (v::r)
def jA:List Value→Value
 |[v]=>v
 |l=> .tuple l.toArray
def idxOf(c:Nat):List UInt8→Nat→Int
 |[],_=> -1
 |b::l,i=>bif Nat.beq b.toNat c then .ofNat i else idxOf c l (i+1)
def nativeV(name origin:String)(args:List Value):Option Value:=
 bif name== "internal/bytealg.IndexByteString" &&origin== "" then
  match args with
  |[.string s,.int .u8 c]=>forceInt (idxOf (c.toNat%256) s.data.toList 0) fun n=>some (.int .i64 n)
  |_=>none
 else none
def callBody(E:Env)(run:Code→Fr→Heap→Option (Ex×Fr×Heap)):cT:=fun f args H=>
 (target E f args).bind fun p=>
 match p.1 with
 | .func g=>
   (E.fn.get g).bind fun fn=>
   match fn.body with
   |none=>(nativeV fn.name fn.origin p.2).bind fun v=>some (v,H)
   |some c=>
    bif !Nat.ble p.2.length fn.ntmps then none else
    (run c {T:=Tr.of p.2,size:=fn.ntmps,marks:=[],round:=none} H).bind fun r=>
     match r.1 with
     | .exit _=>none
     |_=>(killMarks H.lo r.2.2.objs r.2.1.marks).bind fun t=>t.force fun t=>
      (resultsV E {objs:=t,grps:=r.2.2.grps,next:=r.2.2.next,lo:=r.2.2.lo} r.2.1.T fn.results.toList).bind fun vs=>some (jA vs,{objs:=t,grps:=r.2.2.grps,next:=r.2.2.next,lo:=r.2.2.lo})
 | .yield l=>
   match H.objs.get l with
   |some (.loop .ready _ size tmps params assign body _)=>
    bif !Nat.ble H.lo l then none else
    (paramsT size params p.2 tmps).bind fun T=>
    (run assign {T,size,marks:=[],round:=some l} H).bind fun r=>
     match r.1 with
     | .normal=>
       (r.2.2.setLoop l true .busy none).bind fun H1=>(run body r.2.1 H1).bind fun r=>
        match r.1 with
        | .normal=>(r.2.2.setLoop l false .ready none).bind fun H=>some (.bool true,H)
        | .ret=>(r.2.2.setLoop l false .done (some .ret)).bind fun H=>some (.bool false,H)
        | .exit id=>(r.2.2.setLoop l false .done (some (.exit id))).bind fun H=>some (.bool false,H)
     |_=>none
   |_=>none
 |_=>none
def fQ(E:Env)(run:Code→Fr→Heap→Option (Ex×Fr×Heap)):cT:=fun f args H=>
 match E.orc f args H with
 |some r=>some r
 |none=>callBody E run f args H
def headNext:Code→Option Operand
 | .seq a _=>headNext a
 | .region _ ops false=>match ops.toList with
   |o::_=>match o.op,o.guard with
    | .next it false,none=>some it
    |_,_=>none
   |_=>none
 |_=>none
def writesOf:Code→List Tmp
 | .region _ ops _=>ops.toList.filterMap (·.dst)
 | .seq a b=>writesOf a++writesOf b
 | .cond _ a b=>writesOf a++writesOf b
 | .block _ a=>writesOf a
 | .loop a=>writesOf a
 | .scope a=>writesOf a
 |_=>[]
def dropAll:List Tmp→Tr Value→Tr Value
 |[],T=>T
 |t::l,T=>dropAll l (T.del t)
def runHead(E:Env)(run:Code→Fr→Heap→Option (Ex×Fr×Heap))(v:Value):Code→Fr→Heap→Option (Ex×Fr×Heap)
 | .seq a b,fr,H=>(runHead E run v a fr H).bind fun r=>
   match r.1 with
   | .normal=>run b r.2.1 r.2.2
   |e=>some (e,r.2)
 | .region _ ops _,fr,H=>
   match ops.toList with
   |o::rest=>(gQ fr.size fr.T o.dst v).bind fun T=>(exOps E (fQ E run) ops.toList fr.size rest T H).bind fun r=>some (.normal,{T:=r.1,size:=fr.size,marks:=fr.marks,round:=fr.round},r.2)
   |[]=>none
 |_,_,_=>none
def eqNats:List Nat→List Nat→Bool
 |[],[]=>true
 |a::l,b::r=>Nat.beq a b&&eqNats l r
 |_,_=>false
def rP(T:Tr Value):List Tmp→List (Tmp×Value)
 |[]=>[]
 |d::l=>match T.get d with
  |some v=>bif plain1 v then(d,v)::rP T l else rP T l
  |none=>rP T l
def alsoIn(T:Tr Value):List (Tmp×Value)→List (Tmp×Value)
 |[]=>[]
 |p::l=>match T.get p.1 with
  |some v=>bif same1 p.2 v then p::alsoIn T l else alsoIn T l
  |none=>alsoIn T l
def accRet(T:Tr Value)(ws:List Tmp):Option (List (Tmp×Value))→List (Tmp×Value)
 |none=>rP T ws
 |some l=>alsoIn T l
def uS:List (Tmp×Value)→Tr Value→Tr Value
 |[],T=>T
 |p::l,T=>uS l (T.set p.1 p.2)
def roundsV(E:Env)(run:Code→Fr→Heap→Option (Ex×Fr×Heap))(a:Code)(fr:Fr)(H:Heap)(r:Nat)(m:Option Nat)(n:Nat):List (Value×Value)→Nat→Option (List (Tmp×Value))→Option (Option (List (Tmp×Value)))
 |[],_,acc=>some acc
 |e::es,i,acc=>
  match runHead E run (.tuple #[.bool true,e.1,e.2]) a fr {objs:=(H.setObj r (.iter m n (.told i))).objs,grps:=H.grps,next:=H.next,lo:=H.next}with
  |some (ex,bl,_)=>bif eqNats bl.marks fr.marks&&Nat.beq bl.size fr.size then
    match ex with
    | .normal=>roundsV E run a fr H r m n es (i+1) acc
    | .ret=>roundsV E run a fr H r m n es (i+1) (some (accRet bl.T (writesOf a) acc))
    | .exit _=>none
   else none
  |none=>none
def mapLoop(E:Env)(run:Code→Fr→Heap→Option (Ex×Fr×Heap))(a:Code)(it:Operand)(fr:Fr)(H:Heap):Option (Ex×Fr×Heap):=
 (dropAll (writesOf a) fr.T).force fun T=>
 (ev T it).bind fun it=>
 match it with
 | .pointer (some ⟨r,0,none⟩)=>
   match H.objs.get r with
   |some (.iter m n .start)=>
    (entriesOf H m).bind fun es=>
     bif !Nat.beq es.length n|| !Nat.ble H.lo r then none else
      (roundsV E run a {T,size:=fr.size,marks:=fr.marks,round:=fr.round} H r m n es 0 none).bind fun o=>
       match o with
       |none=>(runHead E run (.tuple #[.bool false]) a {T,size:=fr.size,marks:=fr.marks,round:=fr.round} {objs:=H.objs.del r,grps:=H.grps,next:=H.next,lo:=H.lo}).bind fun r=>
        match r.1 with
        | .normal=>none
        |e=>some (e,r.2)
       |some vs=>some (.ret,{T:=uS vs T,size:=fr.size,marks:=fr.marks,round:=fr.round},{objs:=H.objs.del r,grps:=H.grps,next:=H.next,lo:=H.lo})
   |_=>none
 |_=>none
def x8(T:Tr Value)(H:Heap)(it:Operand):Bool:=
 match ev T it with
 |some (.pointer (some ⟨r,_,none⟩))=>(match H.objs.get r with
  |some (.lJ ..)=>true
  |_=>false)
 |_=>false
def Aq(run:Code→Fr→Heap→Option (Ex×Fr×Heap))(a:Code)(fr:Fr)(H:Heap):Option (Ex×Fr×Heap):=
 (run a fr H).bind fun r=>
  match r.1 with
  | .normal=>(run a r.2.1 r.2.2).bind fun r=>
    match r.1 with
    | .normal=>none
    |e=>some (e,r.2)
  |e=>some (e,r.2)
def rangeV(E:Env)(run:Code→Fr→Heap→Option (Ex×Fr×Heap))(g:Value)(params:List Tmp)(assign body:Code)(fr:Fr)(H:Heap):Option (Ex×Fr×Heap):=
 let H1:=H.add .defers
 match g with
 | .func (.func _) _ _=>
   (callBody E run g [.func (.yield H1.next) #[] #[]] (H1.add (.loop .ready none fr.size fr.T params assign body H.next))).bind fun r=>
    match r.2.objs.get H1.next with
    |some (.loop st pending size tmps ps as bo de)=>
     match st with
     | .busy=>none
     |_=>
      match pending with
      |none=>some (.normal,{T:=fr.T,size:=fr.size,marks:=H.next::fr.marks,round:=fr.round},r.2.setObj H1.next (.loop .exhausted pending size tmps ps as bo de))
      |some c=>
       match c with
       | .ret| .exit _=>run c {T:=fr.T,size:=fr.size,marks:=H.next::fr.marks,round:=fr.round} (r.2.setObj H1.next (.loop .exhausted pending size tmps ps as bo de))
       |_=>none
    |_=>none
 |_=>none
def runWith(E:Env)(run:Code→Fr→Heap→Option (Ex×Fr×Heap))(c:Code)(fr:Fr)(H:Heap):Option (Ex×Fr×Heap):=
 match c with
 | .skip=>some (.normal,fr,H)
 | .label _=>some (.normal,fr,H)
 | .region _ ops rQ=>
   (match rQ with
    |false=>exOps E (fQ E run) ops.toList fr.size ops.toList fr.T H
    |true=>rO E (fQ E run) ops fr.size fr.T H).bind fun r=>some (.normal,{T:=r.1,size:=fr.size,marks:=fr.marks,round:=fr.round},r.2)
 | .seq a b=>(run a fr H).bind fun r=>
   match r.1 with
   | .normal=>run b r.2.1 r.2.2
   |e=>some (e,r.2)
 | .cond x a b=>(ev fr.T x).bind fun v=>
   match v with
   | .bool true=>run a fr H
   | .bool false=>run b fr H
   |_=>none
 | .block id a=>(run a fr H).bind fun r=>
   match r.1 with
   | .exit i=>bif Nat.beq i id then some (.normal,r.2)else some (.exit i,r.2)
   |e=>some (e,r.2)
 | .loop a=>
   match headNext a with
   |some it=>bif x8 fr.T H it then Aq run a fr H else mapLoop E run a it fr H
   |none=>(run a fr H).bind fun r=>
    match r.1 with
    | .normal=>run (.loop a) r.2.1 r.2.2
    |e=>some (e,r.2)
 | .scope a=>run a fr H
 | .exit id=>some (.exit id,fr,H)
 | .ret=>some (.ret,fr,H)
 | .rangeFunc g params assign body=>
   match fr.round with
   |some _=>none
   |none=>(ev fr.T g).bind fun g=>rangeV E run g params.toList assign body fr H
 |_=>none
def run(E:Env):Nat→Code→Fr→Heap→Option (Ex×Fr×Heap)
 |0=>fun _ _ _=>none
 |n+1=>runWith E (run E n)
end
section
variable[Maps]
theorem Tr.force_eq{α β:Type}(t:Tr α)(f:Tr α→β):t.force f=f t:=Maps.force_eq t f
theorem Tr.get_nil{α:Type}(k:Nat):(Tr.nil:Tr α).get k=none:=Maps.get_nil k
theorem Tr.dm{α:Type}{t:Tr α}{k j:Nat}{a v:α}(h:(t.set k a).get j=some v):(j=k∧v=a)∨(j≠k∧t.get j=some v):=Maps.dm h
theorem Tr.jf{α:Type}{t:Tr α}{k j:Nat}{v:α}(h:(t.del k).get j=some v):j≠k∧t.get j=some v:=Maps.jf h
theorem Tr.mN{α:Type}{t:Tr α}{k:Nat}{a:α}(h:Maps.low k):(t.set k a).get k=some a:=Maps.mN h
theorem Tr.uT{α:Type}{t:Tr α}{k j:Nat}{a:α}(aX:j≠k)(h:Maps.low j):(t.set k a).get j=t.get j:=Maps.uT aX h
theorem Tr.vv{α:Type}{t:Tr α}{k j:Nat}(aX:j≠k)(h:Maps.low j):(t.del k).get j=t.get j:=Maps.vv aX h
end
section
variable{P:Program}
theorem eU{β:Type}(n:Nat)(f:Nat→β):forceNat n f=f n:=by cases n<;>rfl
theorem rL{β:Type}(n:Int)(f:Int→β):forceInt n f=f n:=by
 cases n<;>simp[forceInt,eU]
end
section
variable[Maps]
theorem ub{β:Type}(H:Heap)(f:Heap→β):Dj H f=f H:=by
 simp only[Dj,Tr.force_eq,eU]
theorem Tr.NA{α:Type}{v:α}:∀ (l:List α) (k j:Nat) (t:Tr α),(Tr.F9 l k t).get j=some v→(k≤j∧l[j-k]? =some v)∨(t.get j=some v∧¬ (k≤j∧j<k+l.length))
 |[],k,j,t,h=> .inr ⟨h,by simp⟩
 |x::l,k,j,t,h=>by
  rcases Tr.NA l (k+1) j (t.set k x) h with⟨h1,h2⟩|⟨h1,h2⟩
  ·refine .inl ⟨by omega,?_⟩
   rw[show j-k=(j-(k+1))+1 by omega]
   simpa using h2
  ·rcases Tr.dm h1 with⟨rfl,rfl⟩|⟨h3,h4⟩
   ·exact .inl ⟨wy _,by simp⟩
   ·exact .inr ⟨h4,by simp at h2 ⊢;omega⟩
theorem Tr.Al{α:Type}{l:List α}{j:Nat}{v:α}(h:(Tr.of l).get j=some v):l[j]? =some v:=by
 rcases Tr.NA l 0 j .nil h with⟨_,h2⟩|⟨h2,_⟩
 ·simpa using h2
 ·simp[Tr.get_nil]at h2
theorem Tr.HE{α:Type}{v:α}:∀ (l:List (Option α)) (k j:Nat) (t:Tr α),(Tr.Dh l k t).get j= .some v→(k≤j∧l[j-k]? = .some (.some v))∨t.get j= .some v
 |[],k,j,t,h=> .inr h
 | .some x::l,k,j,t,h=>by
   rcases Tr.HE l (k+1) j (t.set k x) h with⟨h1,h2⟩|h1
   ·refine .inl ⟨by omega,?_⟩
    rw[show j-k=(j-(k+1))+1 by omega]
    simpa using h2
   ·rcases Tr.dm h1 with⟨rfl,rfl⟩|⟨_,h4⟩
    ·exact .inl ⟨wy _,by simp⟩
    ·exact .inr h4
 | .none::l,k,j,t,h=>by
   rcases Tr.HE l (k+1) j t h with⟨h1,h2⟩|h1
   ·refine .inl ⟨by omega,?_⟩
    rw[show j-k=(j-(k+1))+1 by omega]
    simpa using h2
   ·exact .inr h1
theorem Tr.Wc{α:Type}{l:List (Option α)}{j:Nat}{v:α}(h:(Tr.Li l).get j= .some v):l[j]? = .some (.some v):=by
 rcases Tr.HE l 0 j .nil h with⟨_,h2⟩|h2
 ·simpa using h2
 ·simp[Tr.get_nil]at h2
end
section
variable{P:Program}
theorem vL(a b:Int):leI a b=decide (a≤b):=by
 cases a<;>cases b<;>simp only[leI]
 ·rw[waU];simp[wbi]
 ·simp;omega
 ·simp;omega
 ·rw[waU];simp[wbi];omega
theorem gF(a b:Int):eqI a b=(a==b):=by
 cases a<;>cases b<;>simp only[eqI]
 ·rw[waU];simp;omega
 ·rw[waU];simp
 ·rw[waU];simp
 ·rw[waU];simp
theorem pE(a b:Int):mI a b=decide (a<b):=by
 unfold mI
 rw[vL]
 by_cases h:b≤a
 ·rw[wz h,wx (by omega)];rfl
 ·rw[wx h,wz (by omega)];rfl
theorem at?_eq{i:Int}{n k:Nat}(h:at? i n=some k):i=k∧k<n:=by
 cases i with
 |ofNat i=>
  simp only[at?]at h
  cases hb:Nat.blt i n with
  |true=>
   rw[hb]at h;simp at h;subst h
   exact⟨rfl,by simp[Nat.blt]at hb;omega⟩
  |false=>rw[hb]at h;simp at h
 |negSucc i=>simp[at?]at h
theorem to?_eq{i:Int}{n k:Nat}(h:to? i n=some k):i=k∧k≤n:=by
 cases i with
 |ofNat i=>
  simp only[to?]at h
  cases hb:Nat.ble i n with
  |true=>
   rw[hb]at h;simp at h;subst h
   exact⟨rfl,by simpa using hb⟩
  |false=>rw[hb]at h;simp at h
 |negSucc i=>simp[to?]at h
theorem yC(k:IntKind)(n:Int)(h1:k.min≤n)(h2:n≤k.max):k.wrap n=n:=by
 cases k<;>simp[IntKind.wrap,IntKind.min,IntKind.max,IntKind.bits,IntKind.signed]at* <;>omega
theorem NB(k:IntKind)(n:Int):Gb k n=k.wrap n:=by
 unfold Gb
 rw[vL,vL]
 by_cases h:k.min≤n∧n≤k.max
 ·rw[wz h.1,wz h.2];exact(yC k n h.1 h.2).symm
 ·cases h1:decide (k.min≤n)<;>cases h2:decide (n≤k.max)<;>first|rfl|exact absurd ⟨wap h1,wap h2⟩ h
theorem j0{k:IntKind}{n:Int}{v:Value}(h:gC k n=some v):v= .int k (k.wrap n):=by
 simp only[gC,rL,NB,wi]at h
 exact h.symm
end
section
variable[Maps]
structure dO where
 ax:Nat
 base:Nat
 room:Nat
 exact:Bool
 z:Nat
abbrev Match:=Nat→Option dO
def Match.le(m m':Match):Prop:=∀ r p,m r=some p→m' r=some p
end
section
variable{P:Program}
theorem Match.le_refl(m:Match):m.le m:=fun _ _ h=>h
theorem Match.le_trans{a b c:Match}(h:a.le b)(h':b.le c):a.le c:=fun r p x=>h' r p (h r p x)
end
section
variable[Maps]
def FnRel(m:Match):Fn→Fn→Prop
 | .yield l,f=>∃ p,m l=some p∧f= .yield p.ax
 |f,f'=>f'=f
inductive VRel(m:Match):Value→Value→Prop where
 |bool (b:Bool):VRel m (.bool b) (.bool b)
 |int (k:IntKind) (n:Int):VRel m (.int k n) (.int k n)
 |string (s:ByteArray):VRel m (.string s) (.string s)
 |vC:VRel m (.pointer none) (.pointer none)
 |ptr {r o:Nat} {p:dO} (h:m r=some p):VRel m (.pointer (some ⟨r,o,none⟩)) (.pointer (some ⟨p.ax,p.base+o,none⟩))
 |qm (l c:Nat):VRel m (.slice none l c) (.slice none l c)
 |slice {r o l c c':Nat} {p:dO} (h:m r=some p) (hc:c≤c') (he:p.exact=true→c'=c) (hi:p.exact=false→p.base+o+c'*p.z≤p.room):
   VRel m (.slice (some ⟨r,o,none⟩) l c) (.slice (some ⟨p.ax,p.base+o,none⟩) l c')
 |empty {r o:Nat} {p:dO} (a:Addr) (h:m r=some p) (he:p.exact=false):VRel m (.slice (some ⟨r,o,none⟩) 0 0) (.slice (some a) 0 0)
 |vD:VRel m (.map none) (.map none)
 |map {r:Nat} {p:dO} (h:m r=some p):VRel m (.map (some r)) (.map (some p.ax))
 |nilFunc:VRel m .nilFunc .nilFunc
 |func {f f':Fn} {a a' b b':Array Value} (hf:FnRel m f f') (ha:a.toList.length=a'.toList.length) (hb:b.toList.length=b'.toList.length)
   (ra:∀ (i:Nat) (v v':Value),a.toList[i]? =some v→a'.toList[i]? =some v'→VRel m v v')
   (rb:∀ (i:Nat) (v v':Value),b.toList[i]? =some v→b'.toList[i]? =some v'→VRel m v v'):VRel m (.func f a b) (.func f' a' b')
 |iface (t:TypeId) {v v':Value} (h:VRel m v v'):VRel m (.iface t v) (.iface t v')
 |nilIface:VRel m .nilIface .nilIface
 |agg {a a':Array Value} (ha:a.toList.length=a'.toList.length) (ra:∀ (i:Nat) (v v':Value),a.toList[i]? =some v→a'.toList[i]? =some v'→VRel m v v'):VRel m (.agg a) (.agg a')
 |tuple {a a':Array Value} (ha:a.toList.length=a'.toList.length) (ra:∀ (i:Nat) (v v':Value),a.toList[i]? =some v→a'.toList[i]? =some v'→VRel m v v'):VRel m (.tuple a) (.tuple a')
def LRel(m:Match)(l l':List Value):Prop:=l.length=l'.length∧∀ (i:Nat) (v v':Value),l[i]? =some v→l'[i]? =some v'→VRel m v v'
end
section
variable{P:Program}
theorem FnRel.mono{m m':Match}(h:m.le m'){f f':Fn}(hf:FnRel m f f'):FnRel m' f f':=by
 cases f<;>first|exact hf|(obtain⟨p,h1,h2⟩:=hf;exact⟨p,h _ _ h1,h2⟩)
theorem VRel.mono{m m':Match}(h:m.le m'){v v':Value}(hv:VRel m v v'):VRel m' v v':=by
 induction hv with
 |bool b=>exact .bool b
 |int k n=>exact .int k n
 |string s=>exact .string s
 |vC=>exact .vC
 |ptr h1=>exact .ptr (h _ _ h1)
 |qm l c=>exact .qm l c
 |slice h1 h2 h3 h4=>exact .slice (h _ _ h1) h2 h3 h4
 |empty a h1 h2=>exact .empty a (h _ _ h1) h2
 |vD=>exact .vD
 |map h1=>exact .map (h _ _ h1)
 |nilFunc=>exact .nilFunc
 |func hf ha hb _ _ pH vM=>exact .func (hf.mono h) ha hb pH vM
 |iface t _ ih=>exact .iface t ih
 |nilIface=>exact .nilIface
 |agg ha _ ih=>exact .agg ha ih
 |tuple ha _ ih=>exact .tuple ha ih
theorem LRel.mono{m m':Match}(h:m.le m'){l l':List Value}(hl:LRel m l l'):LRel m' l l':=⟨hl.1,fun i v v' a b=>(hl.2 i v v' a b).mono h⟩
theorem LRel.nil(m:Match):LRel m [] []:=⟨rfl,fun i v v' h=>by simp at h⟩
theorem LRel.cons{m:Match}{v v':Value}{l l':List Value}(hv:VRel m v v')(hl:LRel m l l'):LRel m (v::l) (v'::l'):=
 ⟨by simp[hl.1],fun i a b ha hb=>by
  cases i with
  |zero=>simp at ha hb;subst ha hb;exact hv
  |succ i=>exact hl.2 i a b (by simpa using ha) (by simpa using hb)⟩
theorem LRel.one{m:Match}{v v':Value}(hv:VRel m v v'):LRel m [v] [v']:= .cons hv (.nil m)
theorem LRel.get{m:Match}{l l':List Value}(hl:LRel m l l'){i:Nat}{v:Value}(h:l[i]? =some v):∃ v',l'[i]? =some v'∧VRel m v v':=by
 have hi:i<l.length:=(wD.1 h).1
 have dU:i<l'.length:=by rw[←hl.1];exact hi
 exact⟨l'[i],wj dU,hl.2 i _ _ h (wj dU)⟩
theorem D8{l l':List Value}(h:l.length=l'.length){i:Nat}{v:Value}(hv:l[i]? =some v):∃ u,l'[i]? =some u:=
 ⟨_,wj (by rw[←h];exact(wD.1 hv).1)⟩
theorem FnRel.sub{m₁ m₂ m₃:Match}{f f' NC:Fn}(h1:FnRel m₁ f f')(h2:FnRel m₂ f NC)(ck:∀ r p q,m₁ r=some p→m₂ r=some q→m₃ r=some q):FnRel m₃ f NC:=by
 cases f<;>first|exact h2|(obtain⟨p,a,_⟩:=h1;obtain⟨q,b,c⟩:=h2;exact⟨q,ck _ _ _ a b,c⟩)
theorem VRel.sub{m₁ m₂ m₃:Match}(ck:∀ r p q,m₁ r=some p→m₂ r=some q→m₃ r=some q){v v' rD:Value}(h1:VRel m₁ v v')(h2:VRel m₂ v rD):VRel m₃ v rD:=by
 induction h1 generalizing rD with
 |bool b=>cases h2;exact .bool b
 |int k n=>cases h2;exact .int k n
 |string s=>cases h2;exact .string s
 |vC=>cases h2;exact .vC
 |ptr h=>cases h2 with|ptr h'=>exact .ptr (ck _ _ _ h h')
 |qm l c=>cases h2;exact .qm l c
 |slice h _ _ _=>cases h2 with
  |slice h' a b c=>exact .slice (ck _ _ _ h h') a b c
  |empty a h' b=>exact .empty a (ck _ _ _ h h') b
 |empty _ h _=>cases h2 with
  |slice h' a b c=>exact .slice (ck _ _ _ h h') a b c
  |empty a h' b=>exact .empty a (ck _ _ _ h h') b
 |vD=>cases h2;exact .vD
 |map h=>cases h2 with|map h'=>exact .map (ck _ _ _ h h')
 |nilFunc=>cases h2;exact .nilFunc
 |func hf ha hb _ _ pH vM=>cases h2 with
  |func dQ pn sd pI vN=>
   refine .func (hf.sub dQ ck) pn sd (fun i v v' hv dq=>?_) (fun i v v' hv dq=>?_)
   ·obtain⟨u,hu⟩:=D8 ha hv
    exact pH i v u hv hu (pI i v v' hv dq)
   ·obtain⟨u,hu⟩:=D8 hb hv
    exact vM i v u hv hu (vN i v v' hv dq)
 |iface t _ ih=>cases h2 with|iface _ h'=>exact .iface t (ih h')
 |nilIface=>cases h2;exact .nilIface
 |agg ha _ ih=>cases h2 with
  |agg pn pI=>
   refine .agg pn (fun i v v' hv dq=>?_)
   obtain⟨u,hu⟩:=D8 ha hv
   exact ih i v u hv hu (pI i v v' hv dq)
 |tuple ha _ ih=>cases h2 with
  |tuple pn pI=>
   refine .tuple pn (fun i v v' hv dq=>?_)
   obtain⟨u,hu⟩:=D8 ha hv
   exact ih i v u hv hu (pI i v v' hv dq)
theorem LRel.sub{m₁ m₂ m₃:Match}(ck:∀ r p q,m₁ r=some p→m₂ r=some q→m₃ r=some q){l l' ND:List Value}(h1:LRel m₁ l l')(h2:LRel m₂ l ND):LRel m₃ l ND:=
 ⟨h2.1,fun i v v' hv dq=>by
  obtain⟨u,hu,hr⟩:=h1.get hv
  exact hr.sub ck (h2.2 i v v' hv dq)⟩
theorem LRel.append{m:Match}{a a' b b':List Value}(ha:LRel m a a')(hb:LRel m b b'):LRel m (a++b) (a'++b'):=by
 refine⟨by simp[ha.1,hb.1],fun i v v' h h'=>?_⟩
 by_cases hi:i<a.length
 ·rw[waf hi]at h
  rw[waf (by rw[←ha.1];exact hi)]at h'
  exact ha.2 i v v' h h'
 ·rw[waB (by omega)]at h
  rw[waB (by rw[←ha.1];omega),←ha.1]at h'
  exact hb.2 _ v v' h h'
theorem LRel.take{m:Match}{a a':List Value}(ha:LRel m a a')(n:Nat):LRel m (a.take n) (a'.take n):=by
 refine⟨by simp[ha.1],fun i v v' h h'=>?_⟩
 rw[wab]at h h'
 split at h
 ·rename_i hi
  rw[wF hi]at h'
  exact ha.2 i v v' h h'
 ·simp at h
theorem LRel.drop{m:Match}{a a':List Value}(ha:LRel m a a')(n:Nat):LRel m (a.drop n) (a'.drop n):=by
 refine⟨by simp[ha.1],fun i v v' h h'=>?_⟩
 rw[wae]at h h'
 exact ha.2 _ v v' h h'
theorem LRel.tail{m:Match}{v v':Value}{l l':List Value}(h:LRel m (v::l) (v'::l')):VRel m v v'∧LRel m l l':=
 ⟨h.2 0 v v' rfl rfl,by simpa using h.1,fun i a b ha hb=>h.2 (i+1) a b (by simpa using ha) (by simpa using hb)⟩
theorem LRel.oC{m:Match}{v:Value}{l l':List Value}(h:LRel m (v::l) l'):∃ v' r,l'=v'::r∧VRel m v v'∧LRel m l r:=by
 cases l' with
 |nil=>have:=h.1;simp at this
 |cons v' r=>exact⟨v',r,rfl,h.tail⟩
theorem LRel.mG{m:Match}{l':List Value}(h:LRel m [] l'):l'=[]:=by
 cases l' with
 |nil=>rfl
 |cons v' r=>have:=h.1;simp at this
theorem VRel.AE{m:Match}{l l':List Value}(h:LRel m l l'):VRel m (.agg l.toArray) (.agg l'.toArray):= .agg (by simpa using h.1) (by simpa using h.2)
theorem VRel.uP{m:Match}{l l':List Value}(h:LRel m l l'):VRel m (.tuple l.toArray) (.tuple l'.toArray):= .tuple (by simpa using h.1) (by simpa using h.2)
theorem VRel.DU{m:Match}{a:Array Value}{v':Value}(h:VRel m (.agg a) v'):∃ a',v'= .agg a'∧LRel m a.toList a'.toList:=by
 cases h with|agg ha ra=>exact⟨_,rfl,ha,ra⟩
theorem yg{m:Match}{v v':Value}(h:VRel m v v'):LRel m (cg v) (cg v'):=by
 cases h<;>simp only[cg]
 case agg ha ra=>exact⟨ha,ra⟩
 all_goals first
  |exact .one (.bool _)|exact .one (.int _ _)|exact .one (.string _)|exact .one .vC|exact .one (.qm _ _)|exact .one .vD|exact .one .nilFunc|exact .one .nilIface
  |exact .one (.ptr ‹_›)|exact .one (.slice ‹_› ‹_› ‹_› ‹_›)|exact .one (.empty _ ‹_› ‹_›)|exact .one (.map ‹_›)|exact .one (.func ‹_› ‹_› ‹_› ‹_› ‹_›)|exact .one (.iface _ ‹_›)|exact .one (.tuple ‹_› ‹_›)
theorem ju(v:Value):v.cells.toList=cg v:=by cases v<;>rfl
theorem HF{m:Match}{v:Value}(h:plain1 v=true):VRel m v v:=by
 cases v with
 |bool b=>exact .bool b
 |int k n=>exact .int k n
 |string s=>exact .string s
 |pointer a=>cases a<;>simp[plain1]at h;exact .vC
 |slice a l c=>cases a<;>simp[plain1]at h;exact .qm l c
 |map r=>cases r<;>simp[plain1]at h;exact .vD
 |nilFunc=>exact .nilFunc
 |nilIface=>exact .nilIface
 |_=>simp[plain1]at h
theorem LRel.Wd{m:Match}{l:List Value}(h:∀ v∈l,VRel m v v):LRel m l l:=
 ⟨rfl,fun i v v' a b=>by rw[a]at b;cases b;exact h v (wag a)⟩
theorem plainV_rel{m:Match}{v:Value}(h:plainV v=true):VRel m v v:=by
 cases v with
 |agg cs=>
  have hl:LRel m cs.toList cs.toList:=LRel.Wd fun v hv=>HF (by simpa[plainV]using waC.1 h v hv)
  exact .agg hl.1 hl.2
 |_=>exact HF h
theorem F2(m:Match):VRel m undef undef:= .tuple rfl (fun i v v' h=>by simp at h)
end
section
variable[Maps]
def fk(m:Match)(T:Tr Value)(tmps:Array Value):Prop:=∀ t v,T.get t=some v→∃ v',tmps[t]? =some v'∧VRel m v v'
theorem fk.mono{m m':Match}(h:m.le m'){T:Tr Value}{tmps:Array Value}(ht:fk m T tmps):fk m' T tmps:=
 fun t v hv=>let⟨v',a,b⟩:=ht t v hv;⟨v',a,b.mono h⟩
theorem cE{m:Match}{T:Tr Value}{a:Act}(ht:fk m T a.tmps){x:Operand}{v:Value}(h:ev T x=some v):VRel m v (a.eval x):=by
 cases x with
 |tmp t=>
  obtain⟨v',h1,h2⟩:=ht t v h
  have:a.eval (.tmp t)=v':=by simp[Act.eval,wax,h1]
  rw[this];exact h2
 |const c=>
  simp only[ev]at h
  cases hp:plainV c with
  |true=>rw[hp]at h;simp at h;subst h;exact plainV_rel hp
  |false=>rw[hp]at h;simp at h
 |global g=>simp[ev]at h
 |func f=>simp only[ev,wi]at h;subst h;exact .func rfl rfl rfl (fun i v v' h=>by simp at h) (fun i v v' h=>by simp at h)
theorem Dq{m:Match}{T:Tr Value}{a:Act}(ht:fk m T a.tmps):∀ {l:List Operand} {vs:List Value},evs T l=some vs→LRel m vs (l.map a.eval)
 |[],vs,h=>by simp[evs]at h;subst h;exact .nil m
 |x::l,vs,h=>by
  simp only[evs,we]at h
  obtain⟨v,h1,r,h2,h3⟩:=h
  simp at h3;subst h3
  exact .cons (cE ht h1) (Dq ht h2)
def tj(m:Match)(cells:List Value)(C:Array Value)(base:Nat):Prop:=∀ i v,cells[i]? =some v→∃ v',C[base+i]? =some v'∧VRel m v v'
def IterRel(m:Match)(p:dO)(mm:Option Nat)(n:Nat)(pos:Ga)(w:World):Prop:=
 p.base=0∧∃ iC seen,w.heap[p.ax]? =some (.mapIter iC n seen n)∧(match mm with
  |none=>iC=none
  |some r=>∃ q,m r=some q∧iC=some q.ax)∧(match pos with
  | .start=>seen= #[]
  | .told i=>seen.back? =some i)
def iP(wr:Bool)(m:Match)(p:dO)(w:World):AObj→Prop
 | .row cells bK _=>(∃C e fr,w.heap[p.ax]? =some (.cells C e fr)∧C.size=p.room∧(wr=true→∀ i,i<C.size→¬ (fr.1≤i∧i<fr.2))∧p.base+cells.length≤C.size∧tj m cells C p.base)∧
   p.exact=bK.isNone∧(∀g z,bK=some (g,z)→p.z=z)
 | .map es=>∃ bb:Array MapEntry,w.heap[p.ax]? =some (.map bb bb.size)∧bb.size=es.length∧
   ∀i k v,es[i]? =some (k,v)→∃ e':MapEntry,bb[i]? =some e'∧VRel m k e'.key∧VRel m v e'.val∧e'.born=i
 | .loop st fK size T ps as bo _=>∃ l:Loop,w.heap[p.ax]? =some (.loop l)∧l.state=st∧l.pending=fK∧l.tmps.size=size∧fk m T l.tmps∧l.params.toList=ps∧l.assign=as∧l.body=bo
 | .defers=>w.heap[p.ax]? =some (.deferred (some []))
 | .iter mm n pos=>IterRel m p mm n pos w
 | .po s pos=>p.base=0∧w.heap[p.ax]? =some (.stringIter s pos)
 | .lh es c=>∃ bb:Array MapEntry,w.heap[p.ax]? =some (.map bb c)∧bb.size=es.length∧
   ∀(i:Nat) (k v:Value) (b:Nat),es[i]? =some ((k,v),b)→∃ e':MapEntry,bb[i]? =some e'∧VRel m k e'.key∧VRel m v e'.val∧e'.born=b
 | .lJ mm lK seen last=>p.base=0∧∃ q,m mm=some q∧w.heap[p.ax]? =some (.mapIter (some q.ax) lK seen.toArray last)
end
section
variable{P:Program}
theorem IterRel.mono{m m':Match}(h:m.le m'){p:dO}{mm:Option Nat}{n:Nat}{pos:Ga}{w w':World}(hw:w'.heap[p.ax]? =w.heap[p.ax]?)
  (ho:IterRel m p mm n pos w):IterRel m' p mm n pos w':=by
 obtain⟨h0,iC,seen,h1,h2,h3⟩:=ho
 refine⟨h0,iC,seen,hw.trans h1,?_,h3⟩
 cases mm with
 |none=>exact h2
 |some r=>obtain⟨q,h4,h5⟩:=h2;exact⟨q,h _ _ h4,h5⟩
end
section
variable[Maps]
theorem iP.mono{wr:Bool}{m m':Match}(h:m.le m'){p:dO}{w w':World}(hw:w'.heap[p.ax]? =w.heap[p.ax]?){o:AObj}(ho:iP wr m p w o):iP wr m' p w' o:=by
 cases o with
 |row cells bK dw=>
  obtain⟨⟨C,e,fr,h1,h2,h3,h4,h5⟩,h6,h7⟩:=ho
  exact⟨⟨C,e,fr,hw.trans h1,h2,h3,h4,fun i v hv=>let⟨v',a,b⟩:=h5 i v hv;⟨v',a,b.mono h⟩⟩,h6,h7⟩
 |map es=>
  obtain⟨bb,h1,h2,h3⟩:=ho
  exact⟨bb,hw.trans h1,h2,fun i k v hv=>let⟨e',a,b,c,d⟩:=h3 i k v hv;⟨e',a,b.mono h,c.mono h,d⟩⟩
 |loop st fK size T ps as bo de=>
  obtain⟨l,h1,h2,h3,h4,h5,h6⟩:=ho
  exact⟨l,hw.trans h1,h2,h3,h4,h5.mono h,h6⟩
 |defers=>exact hw.trans ho
 |iter mm n pos=>exact IterRel.mono h hw ho
 |po s pos=>exact⟨ho.1,hw.trans ho.2⟩
 |lh es c=>
  obtain⟨bb,h1,h2,h3⟩:=ho
  exact⟨bb,hw.trans h1,h2,fun i k v b hv=>let⟨e',a,c,d,f⟩:=h3 i k v b hv;⟨e',a,c.mono h,d.mono h,f⟩⟩
 |lJ mm lK seen last=>
  obtain⟨h0,q,h1,h2⟩:=ho
  exact⟨h0,q,h _ _ h1,hw.trans h2⟩
def Mates:AObj→AObj→Prop
 | .row _ (some (g,_)) _,.row _ (some (g',_)) _=>g=g'
 |_,_=>False
structure Rel(B lo0:Nat)(m:Match)(H:Heap)(w:World):Prop where
 base:B≤w.heap.size
 lo:lo0≤H.lo
 ag:H.lo≤H.next
 dom:∀ r p,m r=some p→r<H.next∧p.ax<w.heap.size∧(lo0≤r→B≤p.ax)∧(r<lo0→p.ax<B)
 obj:∀ r p o,m r=some p→H.objs.get r=some o→iP (decide (lo0≤r)) m p w o
 sep:∀ r r' p p' o o',r≠r'→lo0≤r→m r=some p→m r'=some p'→H.objs.get r=some o→H.objs.get r'=some o'→p.ax=p'.ax→Mates o o'
 dw:∀ r r' p p' c c' g z z',m r=some p→m r'=some p'→H.objs.get r=some (.row c (some (g,z)) true)→H.objs.get r'=some (.row c' (some (g,z')) true)→r=r'
 aT:∀ r p c g z,m r=some p→H.objs.get r=some (.row c (some (g,z)) false)→∀ l,H.grps.get g=some l→r∈l
 ends:∀ r r' p p' c c' g z z' t,m r=some p→m r'=some p'→H.objs.get r=some (.row c (some (g,z)) true)→H.objs.get r'=some (.row c' (some (g,z')) t)→p.ax=p'.ax→
  p'.base+c'.length≤p.base+c.length
 bK:∀ r p c g z t,m r=some p→H.objs.get r=some (.row c (some (g,z)) t)→g<H.next
 fJ:GN≤B∧GL w
structure Good(B lo0:Nat)(m:Match)(H:Heap)(w:World)(m':Match)(H':Heap)(w':World):Prop where
 le:m.le m'
 rel:Rel B lo0 m' H' w'
 new:∀ r p,m' r=some p→m r=some p∨(m r=none∧H.next≤r)
 ax:∀ r p,m' r=some p→m r=none→w.heap.size≤p.ax∨∃ r₀ p₀,m r₀=some p₀∧H.lo≤r₀∧p₀.ax=p.ax
 ag:H.next≤H'.next
 lo:H'.lo=H.lo
 frame:∀ b,b<w.heap.size→(∀r p,m r=some p→H.lo≤r→p.ax≠b)→w'.heap[b]? =w.heap[b]?
 size:w.heap.size≤w'.heap.size
 low:∀ r o,r<H.lo→H'.objs.get r=some o→H.objs.get r=some o
 os:w'.os=w.os∧w'.output=w.output
theorem Good.refl{B lo0:Nat}{m:Match}{H:Heap}{w:World}(h:Rel B lo0 m H w):Good B lo0 m H w m H w:=
 ⟨m.le_refl,h,fun _ _ h=> .inl h,fun r p h h'=>(by rw[h]at h';cases h'),wy _,rfl,fun _ _ _=>rfl,wy _,fun _ _ _ h=>h,rfl,rfl⟩
theorem Good.trans{B lo0:Nat}{m m' rK:Match}{H H' ki:Heap}{w w' fD:World}(h:Good B lo0 m H w m' H' w')(h':Good B lo0 m' H' w' rK ki fD):Good B lo0 m H w rK ki fD:=by
 refine⟨Match.le_trans h.le h'.le,h'.rel,fun r p hp=>?_,fun r p hp hn=>?_,wK h.ag h'.ag,h'.lo.trans h.lo,fun b hb hf=>?_,wK h.size h'.size,fun r o hr ho=>?_,
  h'.os.1.trans h.os.1,h'.os.2.trans h.os.2⟩
 ·rcases h'.new r p hp with h1|⟨h1,h2⟩
  ·exact h.new r p h1
  ·cases hm:m r with
   |none=>exact .inr ⟨rfl,wK h.ag h2⟩
   |some q=>rw[h.le r q hm]at h1;cases h1
 ·cases eC:m' r with
  |none=>
   rcases h'.ax r p hp eC with h1|⟨r₀,p₀,h1,h2,h3⟩
   ·exact .inl (wK h.size h1)
   ·cases hm:m r₀ with
    |none=>
     rcases h.ax r₀ p₀ h1 hm with h4|⟨r₁,p₁,h4,h5,h6⟩
     ·exact .inl (by rw[←h3];exact h4)
     ·exact .inr ⟨r₁,p₁,h4,h5,h6.trans h3⟩
    |some q=>
     have:q=p₀:=by have:=h.le r₀ q hm;rw[h1]at this;cases this;rfl
     subst this
     exact .inr ⟨r₀,q,hm,by rw[←h.lo];exact h2,h3⟩
  |some q=>
   have:q=p:=by have:=h'.le r q eC;rw[hp]at this;cases this;rfl
   subst this
   exact h.ax r q eC hn
 ·refine(h'.frame b (wq hb h.size) fun r p hp hr kh=>?_).trans (h.frame b hb hf)
  cases hm:m r with
  |none=>
   rcases h.ax r p hp hm with h1|⟨r₀,p₀,h1,h2,h3⟩
   ·omega
   ·exact hf r₀ p₀ h1 h2 (h3.trans kh)
  |some q=>
   have:q=p:=by have:=h.le r q hm;rw[hp]at this;cases this;rfl
   subst this
   exact hf r q hm (by rw[←h.lo];exact hr) kh
 ·exact h.low r o hr (h'.low r o (by rw[h.lo];exact hr) ho)
end
section
variable[Maps]{B lo0:Nat}{m:Match}{H:Heap}{w:World}
def ez(m:Match)(k:Nat)(p:dO):Match:=fun r=>if r=k then some p else m r
end
section
variable{B lo0:Nat}{m:Match}{w:World}{P:Program}
theorem jx(m:Match)(k:Nat)(p:dO):ez m k p k=some p:=by simp[ez]
theorem pe{m:Match}{k:Nat}(p:dO)(h:m k=none):m.le (ez m k p):=by
 intro r q hq
 by_cases hr:r=k
 ·rw[hr,h]at hq;cases hq
 ·simp[ez,hr,hq]
end
section
variable[Maps]{B lo0:Nat}{m:Match}{H:Heap}{w:World}
theorem Rel.yk(hR:Rel B lo0 m H w){w':World}(h:∀ b,b<B→w'.heap[b]? =w.heap[b]?):GN≤B∧GL w':=⟨hR.fJ.1,L5 (fun b hb=>h b (wq hb hR.fJ.1)) hR.fJ.2⟩
theorem Rel.pg(hR:Rel B lo0 m H w):m H.next=none:=by
 cases h:m H.next with
 |none=>rfl
 |some p=>exact absurd (hR.dom _ _ h).1 (Nat.lt_irrefl _)
theorem Good.same(hR:Rel B lo0 m H w){w':World}(hh:w'.heap=w.heap)(fj:w'.os=w.os∧w'.output=w.output):Good B lo0 m H w m H w':=by
 have dg:∀ r p o,m r=some p→H.objs.get r=some o→iP (decide (lo0≤r)) m p w' o:=fun r p o h1 h2=>(hR.obj r p o h1 h2).mono m.le_refl (by rw[hh])
 exact⟨m.le_refl,{hR with fJ:=hR.yk fun _ _=>by rw[hh],base:=by rw[hh];exact hR.base,dom:=by rw[hh];exact hR.dom,obj:=dg},fun _ _ h=> .inl h,fun r p h h'=>(by rw[h]at h';cases h'),wy _,rfl,
  fun _ _ _=>by rw[hh],by rw[hh];exact wy _,fun _ _ _ h=>h,fj⟩
theorem Good.UM(hR:Rel B lo0 m H w){H':Heap}{w':World}(o:AObj)(p:dO)(hp:w.heap.size≤p.ax)(qC:p.ax<w'.heap.size)(hlt:∀ b,b<w.heap.size→w'.heap[b]? =w.heap[b]?)(bf:w.heap.size≤w'.heap.size)(fj:w'.os=w.os∧w'.output=w.output)
  (dg:iP true (ez m H.next p) p w' o) (hn:H'.next=H.next+1) (hl:H'.lo=H.lo)
  (hg:∀ j x,H'.objs.get j=some x→(j=H.next∧x=o)∨(j≠H.next∧H.objs.get j=some x))
  (yi:∀ g l,H'.grps.get g=some l→g=H.next∨H.grps.get g=some l)
  (ho:∀ c g z t,o= .row c (some (g,z)) t→g=H.next∧t=true):
  Good B lo0 m H w (ez m H.next p) H' w':=by
 have oI:=hR.pg
 have ck:=pe p oI
 have cX:∀ r q,ez m H.next p r=some q→(r=H.next∧q=p)∨(r≠H.next∧m r=some q):=fun r q h=>by
  by_cases hr:r=H.next
  ·simp[ez,hr]at h;exact .inl ⟨hr,h.symm⟩
  ·simp[ez,hr]at h;exact .inr ⟨hr,h⟩
 have an:lo0≤H.next:=wK hR.lo hR.ag
 refine⟨ck,⟨wK hR.base bf,by rw[hl];exact hR.lo,by rw[hl,hn];exact Nat.le_succ_of_le hR.ag,?_,?_,?_,?_,?_,?_,?_,hR.yk fun b hb=>hlt b (wq hb hR.base)⟩,?_,?_,by omega,hl,
  fun b hb _=>hlt b hb,by omega,?_,fj⟩
 ·intro r q h
  rcases cX r q h with⟨rfl,rfl⟩|⟨h1,h2⟩
  ·exact⟨by omega,by omega,fun _=>wK hR.base hp,fun h=>by omega⟩
  ·have:=hR.dom r q h2
   exact⟨by omega,by omega,this.2.2⟩
 ·intro r q x h hx
  rcases hg r x hx with⟨rfl,rfl⟩|⟨h1,h2⟩
  ·have:q=p:=by rw[jx]at h;cases h;rfl
   subst this
   rw[wz an];exact dg
  ·rcases cX r q h with⟨rfl,_⟩|⟨_,h3⟩
   ·exact absurd rfl h1
   ·exact(hR.obj r q x h3 h2).mono ck (hlt _ (hR.dom r q h3).2.1)
 ·intro r r' q q' x x' aX hr h h' hx cu hb
  rcases cX r q h with⟨rfl,rfl⟩|⟨h1,h2⟩
  ·rcases cX r' q' h' with⟨rfl,_⟩|⟨_,h4⟩
   ·exact absurd rfl aX
   ·have:=(hR.dom r' q' h4).2.1;omega
  ·rcases cX r' q' h' with⟨rfl,rfl⟩|⟨h3,h4⟩
   ·have:=(hR.dom r q h2).2.1;omega
   ·refine hR.sep r r' q q' x x' aX hr h2 h4 ?_ ?_ hb
    ·rcases hg r x hx with⟨h5,_⟩|⟨_,h5⟩
     ·exact absurd h5 h1
     ·exact h5
    ·rcases hg r' x' cu with⟨h5,_⟩|⟨_,h5⟩
     ·exact absurd h5 h3
     ·exact h5
 ·intro r r' q q' c c' g z z' h h' hx cu
  rcases hg r _ hx with⟨h1,h2⟩|⟨h1,h2⟩<;>rcases hg r' _ cu with⟨h3,h4⟩|⟨h3,h4⟩
  ·rw[h1,h3]
  ·have e:=(ho _ _ _ _ h2.symm).1
   rcases cX r' q' h' with⟨h5,_⟩|⟨_,h5⟩
   ·exact absurd h5 h3
   ·have:=hR.bK r' q' _ _ _ _ h5 h4;omega
  ·have e:=(ho _ _ _ _ h4.symm).1
   rcases cX r q h with⟨h5,_⟩|⟨_,h5⟩
   ·exact absurd h5 h1
   ·have:=hR.bK r q _ _ _ _ h5 h2;omega
  ·rcases cX r q h with⟨h5,_⟩|⟨_,h5⟩
   ·exact absurd h5 h1
   ·rcases cX r' q' h' with⟨h6,_⟩|⟨_,h6⟩
    ·exact absurd h6 h3
    ·exact hR.dw r r' q q' c c' g z z' h5 h6 h2 h4
 ·intro r q c g z h hx l fL
  rcases hg r _ hx with⟨h1,h2⟩|⟨h1,h2⟩
  ·have:=(ho _ _ _ _ h2.symm).2;cases this
  ·rcases cX r q h with⟨h5,_⟩|⟨_,h5⟩
   ·exact absurd h5 h1
   ·rcases yi g l fL with h6|h6
    ·have:=hR.bK r q _ _ _ _ h5 h2;omega
    ·exact hR.aT r q c g z h5 h2 l h6
 ·intro r r' q q' c c' g z z' t h h' hx cu hb
  rcases hg r _ hx with⟨h1,h2⟩|⟨h1,h2⟩<;>rcases hg r' _ cu with⟨h3,h4⟩|⟨h3,h4⟩
  ·subst h1;subst h3
   rw[h']at h;cases h
   rw[←h2]at h4;cases h4
   exact wy _
  ·have e:=(ho _ _ _ _ h2.symm).1
   rcases cX r' q' h' with⟨h5,_⟩|⟨_,h5⟩
   ·exact absurd h5 h3
   ·have:=hR.bK r' q' _ _ _ _ h5 h4;omega
  ·have e:=(ho _ _ _ _ h4.symm).1
   rcases cX r q h with⟨h5,_⟩|⟨_,h5⟩
   ·exact absurd h5 h1
   ·have:=hR.bK r q _ _ _ _ h5 h2;omega
  ·rcases cX r q h with⟨h5,_⟩|⟨_,h5⟩
   ·exact absurd h5 h1
   ·rcases cX r' q' h' with⟨h6,_⟩|⟨_,h6⟩
    ·exact absurd h6 h3
    ·exact hR.ends r r' q q' c c' g z z' t h5 h6 h2 h4 hb
 ·intro r q c g z t h hx
  rcases hg r _ hx with⟨h1,h2⟩|⟨h1,h2⟩
  ·have:=(ho _ _ _ _ h2.symm).1;omega
  ·rcases cX r q h with⟨h5,_⟩|⟨_,h5⟩
   ·exact absurd h5 h1
   ·have:=hR.bK r q _ _ _ _ h5 h2;omega
 ·intro r q h
  rcases cX r q h with⟨rfl,rfl⟩|⟨_,h2⟩
  ·exact .inr ⟨oI,wy _⟩
  ·exact .inl h2
 ·intro r q h hm
  rcases cX r q h with⟨rfl,rfl⟩|⟨_,h2⟩
  ·exact .inl (by omega)
  ·rw[hm]at h2;cases h2
 ·intro r x hr hx
  rcases hg r x hx with⟨h1,_⟩|⟨_,h2⟩
  ·have:=hR.ag;omega
  ·exact h2
theorem Good.add(hR:Rel B lo0 m H w){H':Heap}{w':World}(O:Obj)(o:AObj)(p:dO)(hp:p.ax=w.heap.size)(hw:w'.heap=w.heap.push O)(fj:w'.os=w.os∧w'.output=w.output)
  (dg:iP true (ez m H.next p) p w' o) (hn:H'.next=H.next+1) (hl:H'.lo=H.lo)
  (hg:∀ j x,H'.objs.get j=some x→(j=H.next∧x=o)∨(j≠H.next∧H.objs.get j=some x))
  (yi:∀ g l,H'.grps.get g=some l→g=H.next∨H.grps.get g=some l)
  (ho:∀ c g z t,o= .row c (some (g,z)) t→g=H.next∧t=true):Good B lo0 m H w (ez m H.next p) H' w':=by
 have bf:w'.heap.size=w.heap.size+1:=by rw[hw];simp
 exact Good.UM hR o p (by omega) (by omega) (fun b hb=>by rw[hw,wbD,wI (by omega)]) (by omega) fj dg hn hl hg yi ho
theorem Gf{H:Heap}{o x:AObj}{j:Nat}(h:(H.add o).objs.get j=some x):(j=H.next∧x=o)∨(j≠H.next∧H.objs.get j=some x):=by
 simp only[Heap.add,eU,Tr.force_eq]at h
 exact Tr.dm h
theorem iR(H:Heap)(o:AObj):(H.add o).next=H.next+1:=by simp[Heap.add,eU,Tr.force_eq]
theorem vn(H:Heap)(o:AObj):(H.add o).lo=H.lo:=by simp[Heap.add,eU,Tr.force_eq]
theorem Av(H:Heap)(o:AObj):(H.add o).grps=H.grps:=by simp[Heap.add,eU,Tr.force_eq]
theorem Good.added(hR:Rel B lo0 m H w){w':World}(O:Obj)(o:AObj)(p:dO)(hp:p.ax=w.heap.size)(hw:w'.heap=w.heap.push O)(fj:w'.os=w.os∧w'.output=w.output)
  (dg:iP true (ez m H.next p) p w' o) (ho:∀ c g t,o≠ .row c (some g) t):Good B lo0 m H w (ez m H.next p) (H.add o) w':=
 Good.add hR O o p hp hw fj dg (iR H o) (vn H o) (fun j x=>Gf) (fun g l h=> .inr (by rw[Av]at h;exact h)) (fun c g z t h=>absurd h (ho c (g,z) t))
theorem Good.newRow(hR:Rel B lo0 m H w){w':World}{cells:List Value}{C:Array Value}(e:TypeId)(hw:w'.heap=w.heap.push (.cells C e))(fj:w'.os=w.os∧w'.output=w.output)
  (hc:LRel m cells C.toList):Good B lo0 m H w (ez m H.next ⟨w.heap.size,0,C.size,true,0⟩) (H.newRow cells) w':=by
 refine Good.added hR _ _ _ rfl hw fj ⟨⟨C,e,(0,0),by rw[hw];simp,rfl,fun _ i _ h=>by simp at h,by simp[hc.1],fun i v hv=>?_⟩,rfl,fun g z h=>by cases h⟩ (fun c g t h=>by simp at h)
 obtain⟨v',h1,h2⟩:=hc.get hv
 exact⟨v',by simpa using h1,h2.mono (pe _ hR.pg)⟩
theorem Good.ez(hR:Rel B lo0 m H w){r:Nat}{p:dO}{o o':AObj}{H':Heap}{w':World}(hm:m r=some p)(hr:H.lo≤r)(ho:H.objs.get r=some o)
  (hn:H'.next=H.next) (hl:H'.lo=H.lo)
  (iE:∀ j x,H'.objs.get j=some x→(j=r∧x=o')∨(j≠r∧H.objs.get j=some x))
  (Dr:∀ g l,H'.grps.get g=some l→H.grps.get g=some l∨∀ j q c z,m j=some q→H'.objs.get j=some (.row c (some (g,z)) false)→False)
  (gP:∀ j q x,j≠r→m j=some q→H'.objs.get j=some x→q.ax≠p.ax)
  (pw:∀ c g t,o'= .row c g t→∃ c₀,o= .row c₀ g t∧c₀.length=c.length)
  (dg:H'.objs.get r=some o'→iP true m p w' o') (GG:∀ b,b≠p.ax→w'.heap[b]? =w.heap[b]?) (bf:w'.heap.size=w.heap.size) (fj:w'.os=w.os∧w'.output=w.output):
  Good B lo0 m H w m H' w':=by
 have an:lo0≤r:=wK hR.lo hr
 have aC:∀ j c g t,H'.objs.get j=some (.row c g t)→∃ c₀,H.objs.get j=some (.row c₀ g t)∧c₀.length=c.length:=fun j c g t h=>by
  rcases iE j _ h with⟨rfl,h2⟩|⟨_,h2⟩
  ·obtain⟨c₀,h3,h4⟩:=pw c g t h2.symm
   exact⟨c₀,by rw[ho,h3],h4⟩
  ·exact⟨c,h2,rfl⟩
 refine⟨m.le_refl,⟨by rw[bf];exact hR.base,by rw[hl];exact hR.lo,by rw[hl,hn];exact hR.ag,by rw[hn,bf];exact hR.dom,?_,?_,?_,?_,?_,?_,hR.yk fun b hb=>GG b fun h=>by have:=(hR.dom r p hm).2.2.1 an;omega⟩,fun _ _ h=> .inl h,
  fun r p h h'=>(by rw[h]at h';cases h'),by omega,hl,fun b _ hf=>GG b fun h=>hf r p hm hr h.symm,by omega,?_,fj⟩
 ·intro j q x hj hx
  rcases iE j x hx with⟨rfl,rfl⟩|⟨h1,h2⟩
  ·have:q=p:=by rw[hm]at hj;cases hj;rfl
   subst this
   rw[wz an];exact dg hx
  ·exact(hR.obj j q x hj h2).mono m.le_refl (GG _ (gP j q x h1 hj hx))
 ·intro j j' q q' x x' aX hj h h' hx cu hb
  rcases iE j x hx with⟨rfl,rfl⟩|⟨h1,h2⟩
  ·have:q=p:=by rw[hm]at h;cases h;rfl
   subst this
   exact absurd hb.symm (gP j' q' x' (wbl aX) h' cu)
  ·rcases iE j' x' cu with⟨rfl,rfl⟩|⟨h3,h4⟩
   ·have:q'=p:=by rw[hm]at h';cases h';rfl
    subst this
    exact absurd hb (gP j q x aX h hx)
   ·exact hR.sep j j' q q' x x' aX hj h h' h2 h4 hb
 ·intro j j' q q' c c' g z z' h h' hx cu
  obtain⟨d,h1,_⟩:=aC _ _ _ _ hx
  obtain⟨d',h2,_⟩:=aC _ _ _ _ cu
  exact hR.dw j j' q q' d d' g z z' h h' h1 h2
 ·intro j q c g z h hx l fL
  obtain⟨d,h1,_⟩:=aC _ _ _ _ hx
  rcases Dr g l fL with h2|h2
  ·exact hR.aT j q d g z h h1 l h2
  ·exact(h2 j q c z h hx).elim
 ·intro j j' q q' c c' g z z' t h h' hx cu hb
  obtain⟨d,h1,e1⟩:=aC _ _ _ _ hx
  obtain⟨d',h2,e2⟩:=aC _ _ _ _ cu
  rw[←e1,←e2]
  exact hR.ends j j' q q' d d' g z z' t h h' h1 h2 hb
 ·intro j q c g z t h hx
  obtain⟨d,h1,_⟩:=aC _ _ _ _ hx
  rw[hn]
  exact hR.bK j q d g z t h h1
 ·intro j x hj hx
  rcases iE j x hx with⟨rfl,_⟩|⟨_,h2⟩
  ·omega
  ·exact h2
end
section
variable[Maps]{B lo0:Nat}{m:Match}{H:Heap}{w:World}{P:Program}
end
section
variable{B lo0:Nat}{m:Match}{w:World}{P:Program}
theorem cell?_at{w:World}{b:Nat}{C:Array Value}{e:TypeId}{fr:Nat×Nat}(h:w.heap[b]? =some (.cells C e fr))(i:Nat):w.cell? ⟨b,i,none⟩=C[i]? :=by
 simp[World.cell?,h]
theorem frozen?_at{w:World}{b:Nat}{C:Array Value}{e:TypeId}{fr:Nat×Nat}(h:w.heap[b]? =some (.cells C e fr))(i:Nat)(hn:¬ (fr.1≤i∧i<fr.2)):w.frozen? ⟨b,i,none⟩=false:=by
 obtain⟨lo,hi⟩:=fr
 simp only[World.frozen?,h]
 simp only[Bool.and_eq_false_imp,wT,wal]
 intro h1 h2
 exact hn ⟨h1,h2⟩
theorem add_plain(b o n:Nat):Addr.add ⟨b,o,none⟩ n=⟨b,o+n,none⟩:=by
 unfold Addr.add
 split
 ·rename_i h;subst h;rfl
 ·rfl
theorem Vz{v:Value}(h:isCell v=true):v.oneCell'=true:=by cases v<;>simp_all[isCell,Value.oneCell']
theorem FH{m:Match}{v v':Value}(h:VRel m v v'):isCell v'=isCell v:=by cases h<;>rfl
end
section
variable[Maps]{B lo0:Nat}{m:Match}{H:Heap}{w:World}{P:Program}
def lj(C:Array Value)(o:Nat)(new:List Value):Array Value:=
 (C.toList.take o++new++C.toList.drop (o+new.length)).toArray
end
section
variable{B lo0:Nat}{m:Match}{w:World}{P:Program}
theorem xV{C:Array Value}{o:Nat}{new:List Value}(h:o+new.length≤C.size):(lj C o new).size=C.size:=by
 simp[lj];omega
theorem uL{C:Array Value}{o:Nat}{new:List Value}(h:o+new.length≤C.size)(i:Nat):
  (lj C o new)[i]? =if o≤i∧i<o+new.length then new[i-o]? else C[i]? :=by
 have h1:(C.toList.take o).length=o:=by simp;omega
 simp only[lj,List.getElem?_toArray]
 by_cases ha:i<o
 ·rw[wI (by omega),waP,waf (by omega),wab,wF ha];simp
 ·by_cases hb:i<o+new.length
  ·rw[wF ⟨by omega,hb⟩,waf (by simp;omega),waB (by omega),h1]
  ·rw[wI (by omega),waB (by simp;omega),wae]
   have:(List.take o C.toList++new).length=o+new.length:=by simp;omega
   rw[this,show o+new.length+(i-(o+new.length))=i by omega];simp
end
section
variable[Maps]{B lo0:Nat}{m:Match}{H:Heap}{w:World}{P:Program}
def dI(w:World)(b:Nat)(O:Obj):World:={w with heap:=w.heap.setIfInBounds b O}
end
section
variable{B lo0:Nat}{m:Match}{w:World}{P:Program}
theorem nG{w:World}{b:Nat}(O:Obj)(h:b<w.heap.size):(dI w b O).heap[b]? =some O:=by simp[dI,h]
theorem uK{w:World}{b c:Nat}(O:Obj)(h:c≠b):(dI w b O).heap[c]? =w.heap[c]? :=by
 simp only[dI,wbA];rw[wI (wbl h)]
theorem xU{w:World}{b:Nat}(O:Obj):(dI w b O).heap.size=w.heap.size:=by simp[dI]
theorem MW{w:World}{b:Nat}{O:Obj}(h:w.heap[b]? =some O):dI w b O=w:=by
 unfold dI
 have:w.heap.setIfInBounds b O=w.heap:=by
  apply wcp
  intro i
  rw[wbA]
  split
  ·rename_i hi;subst hi
   have hlt:b<w.heap.size:=(w0.1 h).1
   simp[hlt,(w0.1 h).2]
  ·rfl
 rw[this]
theorem VA{w:World}{b:Nat}(O O':Obj):dI (dI w b O) b O'=dI w b O':=by
 unfold dI
 congr 1
 apply wcp
 intro i
 simp only[wbA,Array.size_setIfInBounds]
 split<;>rfl
theorem VB{w:World}{b i:Nat}{C:Array Value}{e:TypeId}{fr:Nat×Nat}{v:Value}(h:w.heap[b]? =some (.cells C e fr)):
  w.setCell ⟨b,i,none⟩ v=dI w b (.cells (C.setIfInBounds i v) e fr):=by
 have hlt:b<w.heap.size:=(w0.1 h).1
 unfold World.setCell dI
 congr 1
 apply wcp
 intro j
 simp only[wcI,wbA]
 split
 ·rename_i hj;subst hj;simp[h]
 ·rfl
theorem VC{C:Array Value}{o:Nat}{v:Value}{new:List Value}(h:o+(new.length+1)≤C.size):lj (C.setIfInBounds o v) (o+1) new=lj C o (v::new):=by
 apply wcp
 intro i
 rw[uL (by simp;omega),uL (by simp;omega)]
 by_cases h1:o+1≤i∧i<o+1+new.length
 ·rw[wF h1,wF (by simp;omega),show i-o=(i-(o+1))+1 by omega];simp
 ·rw[wI h1]
  by_cases h2:i=o
  ·subst h2;rw[wF (by simp)];simp[show i<C.size by omega]
  ·rw[wI (by simp;omega),wbA,wI (by omega)]
theorem CO{b:Nat}{e:TypeId}{fr:Nat×Nat}{o:Nat}:∀ (new:List Value) (i:Nat) (w:World) (C:Array Value),w.heap[b]? =some (.cells C e fr)→o+i+new.length≤C.size→
  (∀j,o+i≤j→j<o+i+new.length→¬ (fr.1≤j∧j<fr.2))→new.all isCell=true→
  (storeCells ⟨b,o,none⟩ new i).run P w= .ok () (dI w b (.cells (lj C (o+i) new) e fr))
 |[],i,w,C,h,hs,_,_=>by
  have:lj C (o+i) []=C:=by
   apply wcp;intro j;rw[uL (by simpa using hs)];rw[wI (by simp only[waA];omega)]
  simp only[storeCells,wC,this,MW h]
 |v::new,i,w,C,h,hs,hf,hc=>by
  simp only[wbu,wA]at hc
  simp only[wY]at hs hf
  have kU:=cell?_at h (o+i)
  have AS:C[o+i]? =some C[o+i]:=wa0 (by omega)
  have cG:=frozen?_at h (o+i) (hf _ (wy _) (by omega))
  have h':(dI w b (.cells (C.setIfInBounds (o+i) v) e fr)).heap[b]? =some (.cells (C.setIfInBounds (o+i) v) e fr):=nG _ (w0.1 h).1
  have ih:=CO (o:=o) new (i+1) _ _ h' (by simp;omega) (fun j h1 h2=>hf j (by omega) (by omega)) hc.2
  simp only[storeCells,wB,add_plain,run_store P w _ v _ (Vz hc.1),kU,AS,cG,Result.andThen,wG,waa,VB h,ih,VA]
  rw[show o+(i+1)=o+i+1 by omega,VC (by omega)]
theorem DM{new:List Value}:∀ (o:Nat) (l:List Value),o+new.length≤l.length→(over new o l).length=l.length
 |0,l,h=>by simp[over];omega
 |o+1,x::l,h=>by simp only[over,wY]at *;rw[DM (new:=new) o l (by omega)]
 |o+1,[],h=>by simp at h
theorem DN{new:List Value}:∀ (o:Nat) (l:List Value),o+new.length≤l.length→∀ i,(over new o l)[i]? =if o≤i∧i<o+new.length then new[i-o]? else l[i]?
 |0,l,h,i=>by
  simp only[over]
  by_cases hi:i<new.length
  ·rw[waf hi,wF ⟨by omega,by omega⟩];simp
  ·rw[waB (by omega),wI (by omega),wae];congr 1;omega
 |o+1,x::l,h,i=>by
  simp only[wY]at h
  cases i with
  |zero=>simp[over]
  |succ i=>
   simp only[over,wbo,DN (new:=new) o l (by omega) i]
   by_cases h1:o≤i∧i<o+new.length
   ·rw[wF h1,wF (by omega)];congr 1;omega
   ·rw[wI h1,wI (by omega)]
 |o+1,[],h,i=>by simp at h
theorem tj.over{cells new cC:List Value}{C:Array Value}{base o:Nat}(h:tj m cells C base)(hn:LRel m new cC)(h1:o+new.length≤cells.length)(h2:base+cells.length≤C.size):
  tj m (over new o cells) (lj C (base+o) cC) base:=by
 intro i v hv
 rw[DN o cells h1]at hv
 rw[uL (by rw[←hn.1];omega),←hn.1]
 by_cases hi:o≤i∧i<o+new.length
 ·rw[wF hi]at hv
  rw[wF (by omega),show base+i-(base+o)=i-o by omega]
  exact hn.get hv
 ·rw[wI hi]at hv
  rw[wI (by omega)]
  exact h i v hv
end
section
variable[Maps]{B lo0:Nat}{m:Match}{H:Heap}{w:World}{P:Program}
theorem GW{lo:Nat}:∀ {l:List Nat} {t t':Tr AObj},tz lo t l=some t'→∀ j x,t'.get j=some x→j∉l∧t.get j=some x
 |[],t,t',h,j,x,hx=>by simp[tz]at h;subst h;exact⟨by simp,hx⟩
 |k::l,t,t',h,j,x,hx=>by
  simp only[tz]at h
  cases hb:Nat.ble lo k with
  |false=>rw[hb]at h;simp at h
  |true=>
   rw[hb]at h
   obtain⟨h1,h2⟩:=GW (by simpa using h) j x hx
   obtain⟨h3,h4⟩:=Tr.jf h2
   exact⟨by simp[h1,h3],h4⟩
end
section
variable{B lo0:Nat}{m:Match}{w:World}{P:Program}
theorem cD{α:Type}{b:Bool}{x:Option α}{y:α}(h:(bif b then none else x)=some y):b=false∧x=some y:=by
 cases b
 ·exact⟨rfl,h⟩
 ·simp at h
theorem cn{α:Type}{b:Bool}{x:Option α}{y:α}(h:(bif b then x else none)=some y):b=true∧x=some y:=by
 cases b
 ·simp at h
 ·exact⟨rfl,h⟩
end
section
variable[Maps]{B lo0:Nat}{m:Match}{H:Heap}{w:World}{P:Program}
theorem Heap.Gt{r o:Nat}{new:List Value}{H':Heap}(h:H.write r o new=some H'):∃ cells bK,H.lo≤r∧new.all isCell=true∧H.objs.get r=some (.row cells bK true)∧o+new.length≤cells.length∧
  H'.next=H.next∧H'.lo=H.lo∧
  (match bK with
   |none=>(∀j x,H'.objs.get j=some x→(j=r∧x= .row (over new o cells) none true)∨(j≠r∧H.objs.get j=some x))∧H'.grps=H.grps
   |some (g,z)=>∃ aT,H.grps.get g=some aT∧(∀j x,H'.objs.get j=some x→(j=r∧x= .row (over new o cells) (some (g,z)) true)∨(j≠r∧j∉aT∧H.objs.get j=some x))∧
    (∀g' l,H'.grps.get g'=some l→(g'=g∧l=[])∨(g'≠g∧H.grps.get g'=some l))):=by
 unfold Heap.write at h
 obtain⟨h1,h⟩:=cD h
 simp only[wbM,waM]at h1
 split at h
 ·rename_i cells bK hr
  obtain⟨h2,h⟩:=cD h
  simp only[waM,wbi]at h2
  refine⟨cells,bK,by simpa using h1.1,h1.2,hr,h2,?_⟩
  split at h
  ·simp only[Tr.force_eq,wi]at h
   subst h
   exact⟨rfl,rfl,fun j x hx=>by rcases Tr.dm hx with h|h;exact .inl h;exact .inr h,rfl⟩
  ·rename_i g z
   split at h
   ·rename_i aT hold
    simp only[we,Tr.force_eq,wi]at h
    obtain⟨t,ht,h⟩:=h
    subst h
    refine⟨rfl,rfl,aT,hold,fun j x hx=>?_,fun g' l hl=>Tr.dm hl⟩
    rcases Tr.dm hx with h|⟨h3,h4⟩
    ·exact .inl h
    ·exact .inr ⟨h3,GW ht j x h4⟩
   ·simp at h
 ·simp at h
theorem xS(hR:Rel B lo0 m H w){r o:Nat}{p:dO}{new cC:List Value}{H':Heap}(hm:m r=some p)(h:H.write r o new=some H')(hn:LRel m new cC):
  ∃w',(storeCells ⟨p.ax,p.base+o,none⟩ cC).run P w= .ok () w'∧Good B lo0 m H w m H' w':=by
 obtain⟨cells,bK,h1,h2,h3,h4,h5,h6,h7⟩:=Heap.Gt h
 have an:lo0≤r:=wK hR.lo h1
 obtain⟨⟨C,e,fr,c1,c2,c3,c4,c5⟩,c6,c7⟩:=hR.obj r p _ hm h3
 have cF:cC.all isCell=true:=by
  rw[waC]at h2⊢
  intro v' dq
  obtain⟨i,hi⟩:=wbx.1 dq
  have hlt:i<new.length:=by rw[hn.1];exact(wD.1 hi).1
  rw[FH (hn.2 i _ v' (wj hlt) hi)]
  exact h2 _ (wam hlt)
 have bG:=CO (P:=P) (o:=p.base+o) cC 0 w C c1 (by rw[←hn.1];omega) (fun j _ h=>c3 (wz an) j (by rw[←hn.1]at h;omega)) cF
 refine⟨_,bG,?_⟩
 have bf:C.size=(lj C (p.base+o+0) cC).size:=(xV (by rw[←hn.1];omega)).symm
 have dg:iP true m p (dI w p.ax (.cells (lj C (p.base+o+0) cC) e fr)) (.row (over new o cells) bK true):=
  ⟨⟨_,e,fr,nG _ (w0.1 c1).1,by rw[←bf];exact c2,fun _ i hi=>c3 (wz an) i (by omega),by rw[DM o cells h4,←bf];exact c4,c5.over hn h4 c4⟩,c6,c7⟩
 have DO:∀ j q x,j≠r→m j=some q→H.objs.get j=some x→q.ax=p.ax→∃ g z z' c t,bK=some (g,z)∧x= .row c (some (g,z')) t:=by
  intro j q x hj hq hx hb
  have:=hR.sep r j p q _ x (wbl hj) an hm hq h3 hx hb.symm
  cases bK with
  |none=>cases x<;>simp[Mates]at this
  |some gz=>
   obtain⟨g,z⟩:=gz
   cases x with
   |row c nP t=>
    cases nP with
    |none=>simp[Mates]at this
    |some GJ=>obtain⟨g',z'⟩:=GJ;simp only[Mates]at this;subst this;exact⟨g,z,z',c,t,rfl,rfl⟩
   |_=>simp[Mates]at this
 cases Dr:bK with
 |none=>
  rw[Dr]at h7 dg h3 DO
  obtain⟨h7,h8⟩:=h7
  exact Good.ez hR hm h1 h3 h5 h6 h7 (fun g l hl=> .inl (by rw[h8]at hl;exact hl)) (fun j q x hj hq hx hb=>by
    rcases h7 j x hx with⟨h,_⟩|⟨_,h⟩
    ·exact hj h
    ·obtain⟨g,z,z',c,t,h9,_⟩:=DO j q x hj hq h hb;cases h9)
   (fun c g t h=>by cases h;exact⟨cells,rfl,(DM o cells h4).symm⟩) (fun _=>dg) (fun b hb=>uK _ hb) (xU _) ⟨rfl,rfl⟩
 |some gz=>
  obtain⟨g,z⟩:=gz
  rw[Dr]at h7 dg h3 DO
  obtain⟨aT,h8,h9,aZ⟩:=h7
  refine Good.ez hR hm h1 h3 h5 h6 (fun j x hx=>?_) (fun g' l hl=>?_) (fun j q x hj hq hx hb=>?_)
   (fun c g t h=>by cases h;exact⟨cells,rfl,(DM o cells h4).symm⟩) (fun _=>dg) (fun b hb=>uK _ hb) (xU _) ⟨rfl,rfl⟩
  ·rcases h9 j x hx with h|⟨h,_,h'⟩
   ·exact .inl h
   ·exact .inr ⟨h,h'⟩
  ·rcases aZ g' l hl with⟨rfl,rfl⟩|⟨_,h⟩
   ·refine .inr fun j q c z' hq hx=>?_
    rcases h9 j _ hx with⟨_,h⟩|⟨_,h,h'⟩
    ·cases h
    ·exact h (hR.aT j q c g' z' hq h' aT h8)
   ·exact .inl h
  ·rcases h9 j x hx with⟨h,_⟩|⟨_,h,h'⟩
   ·exact hj h
   ·obtain⟨g',z₁,z',c,t,aY,bH⟩:=DO j q x hj hq h' hb
    cases aY
    subst bH
    cases t with
    |true=>exact hj (hR.dw j r q p c cells g z' z hq hm h' h3)
    |false=>exact h (hR.aT j q c g z' hq h' aT h8)
end
variable[Maps]{B lo0:Nat}{m:Match}{H:Heap}{w:World}{P:Program}
theorem Heap.UN{r:Nat}{c:List Value}{g z:Nat}{new:List Value}{H':Heap}(h:H.grow r c g z new=some H'):∃ aT,H.grps.get g=some aT∧H'.next=H.next+1∧H'.lo=H.lo∧
  (∀j x,H'.objs.get j=some x→(j=H.next∧x= .row new (some (g,z)) true)∨(j≠H.next∧j=r∧x= .row c (some (g,z)) false)∨(j≠H.next∧j≠r∧H.objs.get j=some x))∧
  (∀g' l,H'.grps.get g'=some l→(g'=g∧l=r::aT)∨(g'≠g∧H.grps.get g'=some l)):=by
 unfold Heap.grow at h
 split at h
 ·simp at h
 ·rename_i aT hold
  simp only[eU,Tr.force_eq,wi]at h
  subst h
  refine⟨aT,hold,rfl,rfl,fun j x hx=>?_,fun g' l hl=>Tr.dm hl⟩
  rcases Tr.dm hx with h|⟨h1,h2⟩
  ·exact .inl h
  ·rcases Tr.dm h2 with⟨h3,h4⟩|⟨h3,h4⟩
   ·exact .inr (.inl ⟨h1,h3,h4⟩)
   ·exact .inr (.inr ⟨h1,h3,h4⟩)
theorem L6{c:List Value}{bK:Option (Nat×Nat)}{t t':Bool}{y:AObj}(h:Mates (.row c bK t) y):Mates (.row c bK t') y:=by
 cases bK with
 |none=>exact h
 |some gz=>cases y with
  |row d nP s=>cases nP<;>exact h
  |_=>exact h
theorem L7{c:List Value}{bK:Option (Nat×Nat)}{t t':Bool}{y:AObj}(h:Mates y (.row c bK t)):Mates y (.row c bK t'):=by
 cases bK with
 |none=>cases y with
  |row d nP s=>cases nP<;>exact h
  |_=>exact h
 |some gz=>cases y with
  |row d nP s=>cases nP<;>exact h
  |_=>exact h
theorem FI(hR:Rel B lo0 m H w){r:Nat}{p q:dO}{c:List Value}{g z:Nat}{new:List Value}{H':Heap}{w':World}(hm:m r=some p)(hr:H.lo≤r)
  (ho:H.objs.get r=some (.row c (some (g,z)) true)) (h:H.grow r c g z new=some H')
  (hw:∀ b,b<w.heap.size→b≠p.ax→w'.heap[b]? =w.heap[b]?) (bf:w.heap.size≤w'.heap.size) (GH:q.ax<w'.heap.size)
  (hold:∃ C C' e fr,w.heap[p.ax]? =some (.cells C e fr)∧w'.heap[p.ax]? =some (.cells C' e fr)∧C'.size=C.size∧∀ i,i<p.base+c.length→C'[i]? =C[i]?)
  (rI:(q.ax=p.ax∧p.base+c.length≤q.base+new.length)∨w.heap.size≤q.ax)
  (dg:iP true (AM.ez m H.next q) q w' (.row new (some (g,z)) true)) (fj:w'.os=w.os∧w'.output=w.output):
  Good B lo0 m H w (AM.ez m H.next q) H' w':=by
 obtain⟨aT,h1,h2,h3,h4,h5⟩:=Heap.UN h
 have oI:=hR.pg
 have ck:=pe q oI
 have an:lo0≤r:=wK hR.lo hr
 have UO:lo0≤H.next:=wK hR.lo hR.ag
 have iQ:r≠H.next:=fun e=>by rw[e,oI]at hm;cases hm
 have cX:∀ j s,AM.ez m H.next q j=some s→(j=H.next∧s=q)∨(j≠H.next∧m j=some s):=fun j s h=>by
  by_cases hj:j=H.next
  ·simp[AM.ez,hj]at h;exact .inl ⟨hj,h.symm⟩
  ·simp[AM.ez,hj]at h;exact .inr ⟨hj,h⟩
 have Ds:∀ j x,j≠H.next→H'.objs.get j=some x→∃ x₀,H.objs.get j=some x₀∧((j≠r∧x=x₀)∨(j=r∧x₀= .row c (some (g,z)) true∧x= .row c (some (g,z)) false)):=fun j x hj hx=>by
  rcases h4 j x hx with⟨h,_⟩|⟨_,h6,h7⟩|⟨_,h6,h7⟩
  ·exact absurd h hj
  ·subst h6;exact⟨_,ho,.inr ⟨rfl,rfl,h7⟩⟩
  ·exact⟨x,h7,.inl ⟨h6,rfl⟩⟩
 have GI:∀ j s x,j≠r→m j=some s→H.objs.get j=some x→s.ax=p.ax→∃ c' z' t,x= .row c' (some (g,z')) t∧s.base+c'.length≤p.base+c.length:=fun j s x hj hs hx hb=>by
  have:=hR.sep r j p s _ x (wbl hj) an hm hs ho hx hb.symm
  cases x with
  |row c' nP t=>
   cases nP with
   |none=>simp[Mates]at this
   |some GJ=>
    obtain⟨g',z'⟩:=GJ
    simp only[Mates]at this
    subst this
    exact⟨c',z',t,rfl,hR.ends r j p s c c' g z z' t hm hs ho hx hb.symm⟩
  |_=>simp[Mates]at this
 have Dt:∀ j s c' z',j≠r→m j=some s→H.objs.get j=some (.row c' (some (g,z')) true)→False:=fun j s c' z' hj hs hx=>hj (hR.dw j r s p c' c g z' z hs hm hx ho)
 refine⟨ck,⟨wK hR.base bf,by rw[h3];exact hR.lo,by rw[h2,h3];exact Nat.le_succ_of_le hR.ag,?_,?_,?_,?_,?_,?_,?_,hR.yk fun b hb=>hw b (wq hb hR.base) fun e=>by have:=(hR.dom r p hm).2.2.1 an;omega⟩,?_,?_,by omega,h3,
  fun b hb hf=>hw b hb fun e=>hf r p hm hr e.symm,bf,?_,fj⟩
 ·intro j s hj
  rcases cX j s hj with⟨rfl,rfl⟩|⟨_,h6⟩
  ·refine⟨by omega,GH,fun _=>?_,fun h=>by omega⟩
   rcases rI with⟨h,_⟩|h
   ·rw[h];exact(hR.dom r p hm).2.2.1 an
   ·exact wK hR.base h
  ·have:=hR.dom j s h6
   exact⟨by omega,by omega,this.2.2⟩
 ·intro j s x hj hx
  rcases cX j s hj with⟨rfl,rfl⟩|⟨h6,h7⟩
  ·rcases h4 _ _ hx with⟨_,h⟩|⟨h,_⟩|⟨h,_⟩
   ·subst h;rw[wz UO];exact dg
   ·exact absurd rfl h
   ·exact absurd rfl h
  ·obtain⟨x₀,h8,h9⟩:=Ds j x h6 hx
   have L8:=hR.obj j s x₀ h7 h8
   by_cases hb:s.ax=p.ax
   ·obtain⟨C,C',e,fr,c1,c2,c3,c4⟩:=hold
    have UP:∃ c' nP t,x₀= .row c' nP t∧(∃t',x= .row c' nP t')∧s.base+c'.length≤p.base+c.length:=by
     rcases h9 with⟨aZ,rfl⟩|⟨rfl,rfl,rfl⟩
     ·obtain⟨c',z',t,aY,bH⟩:=GI j s x aZ h7 h8 hb
      exact⟨c',_,t,aY,⟨t,aY⟩,bH⟩
     ·have:s=p:=by rw[hm]at h7;cases h7;rfl
      subst this
      exact⟨c,_,true,rfl,⟨false,rfl⟩,wy _⟩
    obtain⟨c',nP,t,rfl,⟨t',rfl⟩,bj⟩:=UP
    obtain⟨⟨D,e',bl,d1,d2,d3,d4,d5⟩,d6,d7⟩:=L8
    rw[hb,c1]at d1
    simp only[wi,Obj.cells.injEq]at d1
    obtain⟨rfl,rfl,rfl⟩:=d1
    refine⟨⟨C',e,fr,by rw[hb];exact c2,by rw[c3];exact d2,by rw[c3];exact d3,by rw[c3];exact d4,fun i v hv=>?_⟩,d6,d7⟩
    obtain⟨v',e1,e2⟩:=d5 i v hv
    exact⟨v',by rw[c4 _ (by have:=(wD.1 hv).1;omega)];exact e1,e2.mono ck⟩
   ·have yb:=L8.mono ck (hw _ (hR.dom j s h7).2.1 hb)
    rcases h9 with⟨_,rfl⟩|⟨_,rfl,rfl⟩
    ·exact yb
    ·exact yb
 ·intro j j' s s' x x' aX hj hs mR hx cu hb
  rcases cX j s hs with⟨rfl,rfl⟩|⟨h6,h7⟩
  ·have oJ:x= .row new (some (g,z)) true:=by
    rcases h4 _ _ hx with⟨_,h⟩|⟨h,_⟩|⟨h,_⟩
    ·exact h
    ·exact absurd rfl h
    ·exact absurd rfl h
   subst oJ
   rcases cX j' s' mR with⟨rfl,_⟩|⟨h8,h9⟩
   ·exact absurd rfl aX
   ·rcases rI with⟨aZ,_⟩|aZ
    ·obtain⟨x₀,aY,bH⟩:=Ds j' x' h8 cu
     rcases bH with⟨bQ,rfl⟩|⟨_,_,rfl⟩
     ·obtain⟨c',z',t,rfl,_⟩:=GI j' s' x' bQ h9 aY (by rw[←hb,aZ])
      rfl
     ·rfl
    ·have:=(hR.dom j' s' h9).2.1;omega
  ·obtain⟨x₀,h8,h9⟩:=Ds j x h6 hx
   rcases cX j' s' mR with⟨rfl,rfl⟩|⟨aZ,aY⟩
   ·have oJ:x'= .row new (some (g,z)) true:=by
     rcases h4 _ _ cu with⟨_,h⟩|⟨h,_⟩|⟨h,_⟩
     ·exact h
     ·exact absurd rfl h
     ·exact absurd rfl h
    subst oJ
    rcases rI with⟨bH,_⟩|bH
    ·rcases h9 with⟨bQ,rfl⟩|⟨_,_,rfl⟩
     ·obtain⟨c',z',t,rfl,_⟩:=GI j s x bQ h7 h8 (by rw[hb,bH])
      rfl
     ·rfl
    ·have:=(hR.dom j s h7).2.1;omega
   ·obtain⟨UQ,bH,bQ⟩:=Ds j' x' aZ cu
    have:=hR.sep j j' s s' x₀ UQ aX hj h7 aY h8 bH hb
    rcases h9 with⟨_,rfl⟩|⟨_,rfl,rfl⟩<;>rcases bQ with⟨_,rfl⟩|⟨_,rfl,rfl⟩<;>first|exact this|exact L6 this|exact L7 this|exact L6 (L7 this)
 ·intro j j' s s' d d' g' z₁ z₂ hs mR hx cu
  rcases h4 j _ hx with⟨h6,h7⟩|⟨_,_,h7⟩|⟨h6,h7,h8⟩
  ·cases h7
   rcases h4 j' _ cu with⟨h9,_⟩|⟨_,_,aZ⟩|⟨h9,aZ,aY⟩
   ·rw[h6,h9]
   ·cases aZ
   ·rcases cX j' s' mR with⟨bH,_⟩|⟨_,bH⟩
    ·exact absurd bH h9
    ·exact(Dt j' s' d' z₂ aZ bH aY).elim
  ·cases h7
  ·rcases cX j s hs with⟨h9,_⟩|⟨_,h9⟩
   ·exact absurd h9 h6
   ·rcases h4 j' _ cu with⟨aZ,aY⟩|⟨_,_,aY⟩|⟨aZ,aY,bH⟩
    ·cases aY
     exact(Dt j s d z₁ h7 h9 h8).elim
    ·cases aY
    ·rcases cX j' s' mR with⟨bQ,_⟩|⟨_,bQ⟩
     ·exact absurd bQ aZ
     ·exact hR.dw j j' s s' d d' g' z₁ z₂ h9 bQ h8 bH
 ·intro j s d g' z' hs hx l hl
  rcases h4 j _ hx with⟨_,h7⟩|⟨_,h7,h8⟩|⟨h6,h7,h8⟩
  ·cases h7
  ·cases h8
   rcases h5 _ l hl with⟨_,rfl⟩|⟨h9,_⟩
   ·rw[h7];simp
   ·exact absurd rfl h9
  ·rcases cX j s hs with⟨h9,_⟩|⟨_,h9⟩
   ·exact absurd h9 h6
   ·rcases h5 g' l hl with⟨rfl,rfl⟩|⟨_,aZ⟩
    ·exact wM _ (hR.aT j s d g' z' h9 h8 aT h1)
    ·exact hR.aT j s d g' z' h9 h8 l aZ
 ·intro j j' s s' d d' g' z₁ z₂ t hs mR hx cu hb
  rcases h4 j _ hx with⟨h6,h7⟩|⟨_,_,h7⟩|⟨h6,h7,h8⟩
  ·cases h7
   subst h6
   have UR:s=q:=by rw[jx]at hs;cases hs;rfl
   subst UR
   rcases h4 j' _ cu with⟨h9,aZ⟩|⟨h9,aZ,aY⟩|⟨h9,aZ,aY⟩
   ·subst h9
    have:s'=s:=by rw[jx]at mR;cases mR;rfl
    subst this
    cases aZ
    exact wy _
   ·subst aZ
    cases aY
    rcases cX j' s' mR with⟨bH,_⟩|⟨_,bH⟩
    ·exact absurd bH h9
    ·have:s'=p:=by rw[hm]at bH;cases bH;rfl
     subst this
     rcases rI with⟨_,bQ⟩|bQ
     ·exact bQ
     ·have:=(hR.dom _ _ bH).2.1;omega
   ·rcases cX j' s' mR with⟨bH,_⟩|⟨_,bH⟩
    ·exact absurd bH h9
    ·rcases rI with⟨bQ,jZ⟩|bQ
     ·have:=hR.ends r j' p s' c d' _ _ z₂ t hm bH ho aY (by rw[←hb,bQ])
      omega
     ·have:=(hR.dom _ _ bH).2.1;omega
  ·cases h7
  ·rcases cX j s hs with⟨h9,_⟩|⟨_,h9⟩
   ·exact absurd h9 h6
   ·rcases h4 j' _ cu with⟨_,aY⟩|⟨aZ,aY,bH⟩|⟨aZ,aY,bH⟩
    ·cases aY
     exact(Dt j s d z₁ h7 h9 h8).elim
    ·cases bH
     exact(Dt j s d z₁ h7 h9 h8).elim
    ·rcases cX j' s' mR with⟨bQ,_⟩|⟨_,bQ⟩
     ·exact absurd bQ aZ
     ·exact hR.ends j j' s s' d d' g' z₁ z₂ t h9 bQ h8 bH hb
 ·intro j s d g' z' t hs hx
  rcases h4 j _ hx with⟨_,h7⟩|⟨_,_,h7⟩|⟨h6,_,h8⟩
  ·cases h7;have:=hR.bK r p c g z true hm ho;omega
  ·cases h7;have:=hR.bK r p c g z true hm ho;omega
  ·rcases cX j s hs with⟨h9,_⟩|⟨_,h9⟩
   ·exact absurd h9 h6
   ·have:=hR.bK j s d g' z' t h9 h8;omega
 ·intro j s hs
  rcases cX j s hs with⟨rfl,_⟩|⟨_,h6⟩
  ·exact .inr ⟨oI,wy _⟩
  ·exact .inl h6
 ·intro j s hs hn
  rcases cX j s hs with⟨rfl,rfl⟩|⟨_,h6⟩
  ·rcases rI with⟨h7,_⟩|h7
   ·exact .inr ⟨r,p,hm,hr,h7.symm⟩
   ·exact .inl h7
  ·rw[hn]at h6;cases h6
 ·intro j x hj hx
  rcases h4 j x hx with⟨h6,_⟩|⟨_,h6,_⟩|⟨_,_,h6⟩
  ·have:=hR.ag;omega
  ·omega
  ·exact h6
end Go.AM
namespace Go.AM
section
variable[Maps]{m:Match}{w:World}{E:Env}
structure EnvOk(E:Env):Prop where
 ty:∀ t i,E.ty.get t=some i→∃ info,E.P.info? t=some info∧TI.of E.P t info=some i
 fn:∀ f g,E.fn.get f=some g→E.P.funcs[f]? =some g
 num:∀ f g,E.fn.get f=some g→(g.name== "runtime.NumGoroutine")=false
theorem EnvOk.of(P:Program)(hP:P.funcs.toList.all (fun f=> !(f.name== "runtime.NumGoroutine"))=true):EnvOk (Env.of P) where
 ty t i h:=by
  have h1:=Tr.Wc h
  simp only[war,wa6]at h1
  obtain⟨⟨info,k⟩,h2,h3⟩:=h1
  rw[List.getElem?_zipIdx]at h2
  simp only[wau,wa6,wk]at h2
  obtain⟨x,h4,rfl,rfl⟩:=h2
  refine⟨x,?_,h3⟩
  have h5:P.types[t]? =some x:=by simpa using h4
  show P.info? t=some x
  unfold Tables.info?
  rw[wF (w0.1 h5).1]
  exact h5
 fn f g h:=by
  have h1:=Tr.Al h
  show P.funcs[f]? =some g
  simpa using h1
 num f g h:=by
  have h1:=Tr.Al h
  have h2:=waC.1 hP g (wag h1)
  simpa using h2
theorem EnvOk.inv(hE:EnvOk E){t:TypeId}{i:TI}(h:E.ty.get t=some i):∃ info,E.P.info? t=some info∧E.P.underlying t=some i.desc∧i.size=info.size∧i.bytes=info.bytes∧i.agg=isAggD i.desc∧
  (∀z,i.zero=some z→info.zero=some z∧plainV z=true)∧(i.cmp=true→E.P.stoodInHeld t=false∧E.P.eqGuardType E.P.depth t=false)∧i.fs=Lj i.desc:=by
 obtain⟨info,h1,h2⟩:=hE.ty t i h
 simp only[TI.of,we,wi]at h2
 obtain⟨d,h3,rfl⟩:=h2
 refine⟨info,h1,?_,rfl,rfl,rfl,fun z hz=>?_,fun hc=>?_,rfl⟩
 ·obtain⟨desc,str,size,bytes,hp,al,fa,zero,cmp,ziO⟩:=info
  unfold Program.underlying
  rw[h1]
  cases desc<;>simp only[descOf,wi]at h3<;>first|(subst h3;rfl)|skip
  rename_i n u
  simp only[we,wi]at h3
  obtain⟨j,h4,rfl⟩:=h3
  simp[h4]
 ·simp only at hz
  split at hz
  ·rename_i y hy
   obtain⟨h4,h5⟩:=cn hz
   simp only[wi]at h5
   subst h5
   exact⟨hy,h4⟩
  ·simp at hz
 ·simpa using hc
theorem EnvOk.desc(hE:EnvOk E){t:TypeId}{i:TI}(h:E.ty.get t=some i){d:TypeDesc}(hd:i.desc=d)(w:World):(underlying t).run E.P w= .ok d w:=by
 obtain⟨info,_,h2,_⟩:=hE.inv h
 exact waN (by rw[h2,hd]) w
theorem EnvOk.oH(hE:EnvOk E){t:TypeId}{i:TI}(h:E.ty.get t=some i)(w:World):(sizeOf t).run E.P w= .ok i.size w:=by
 obtain⟨info,h1,_,h3,_⟩:=hE.inv h
 rw[run_sizeOf w h1]
 simp[Program.cellsOf,h1,h3]
theorem EnvOk.size(hE:EnvOk E){t:TypeId}{n:Nat}(h:E.size t=some n)(w:World):(sizeOf t).run E.P w= .ok n w:=by
 simp only[Env.size,we,wi]at h
 obtain⟨i,h1,rfl⟩:=h
 exact hE.oH h1 w
theorem EnvOk.isAgg(hE:EnvOk E){t:TypeId}{i:TI}(h:E.ty.get t=some i)(w:World):(isAgg t).run E.P w= .ok i.agg w:=by
 obtain⟨info,_,h2,_,_,h5,_⟩:=hE.inv h
 simp only[Go.isAgg,wB,waN h2,wu,h5]
 cases i.desc<;>rfl
theorem EnvOk.zero(hE:EnvOk E){t:TypeId}{i:TI}{z:Value}(h:E.ty.get t=some i)(hz:i.zero=some z):plainV z=true∧∀ w,(zeroValue t).run E.P w= .ok z w:=by
 obtain⟨info,h1,_,_,_,_,h6,_⟩:=hE.inv h
 obtain⟨h7,h8⟩:=h6 z hz
 exact⟨h8,fun w=>by simp[zeroValue,run_typeInfo w h1,h7]⟩
theorem EnvOk.bytes(hE:EnvOk E){t:TypeId}{i:TI}(h:E.ty.get t=some i):∃ info,(∀w,(typeInfo t).run E.P w= .ok info w)∧info.bytes=i.bytes:=by
 obtain⟨info,h1,_,_,h4,_⟩:=hE.inv h
 exact⟨info,fun w=>run_typeInfo w h1,h4.symm⟩
end
section
variable{B lo0:Nat}{m:Match}{w:World}{P:Program}
theorem vu{k k':IntKind}(h:sameKind k k'=true):k=k':=by cases k<;>cases k'<;>first|rfl|simp[sameKind]at h
theorem VK{op:BinOp}{k:IntKind}{a b:Int}{v:Value}(h:intOp op k a b=some v)(t:TypeId)(w:World)(P:Program):(binOp op t (.int k a) (.int k b)).run P w= .ok v w:=by
 cases op<;>simp only[intOp]at h
 case quo=>
  obtain⟨h1,h2⟩:=cD h
  rw[gF]at h1
  have hb:b≠0:=by intro e;subst e;simp at h1
  rw[j0 h2]
  simp[binOp,Op.intDiv,hb]
 case rem=>
  obtain⟨h1,h2⟩:=cD h
  rw[gF]at h1
  have hb:b≠0:=by intro e;subst e;simp at h1
  simp only[rL,wi]at h2
  subst h2
  simp[binOp,Op.intDiv,hb]
 case shl=>simp at h
 case shr=>simp at h
 case add=>rw[j0 h];simp[binOp,Op.intArith]
 case sub=>rw[j0 h];simp[binOp,Op.intArith]
 case mul=>rw[j0 h];simp[binOp,Op.intArith]
 case and=>rw[j0 h];simp[binOp,Op.intBits]
 case or=>rw[j0 h];simp[binOp,Op.intBits]
 case xor=>rw[j0 h];simp[binOp,Op.intBits]
 case andNot=>rw[j0 h];simp[binOp,Op.intBits]
 case eql=>simp only[wi]at h;subst h;simp[binOp,Op.intCmp,gF]
 case neq=>simp only[wi]at h;subst h;simp[binOp,Op.intCmp,gF];rfl
 case lss=>simp only[wi]at h;subst h;simp[binOp,Op.intCmp,pE]
 case leq=>simp only[wi]at h;subst h;simp[binOp,Op.intCmp,vL]
 case gtr=>simp only[wi]at h;subst h;simp[binOp,Op.intCmp,pE]
 case geq=>simp only[wi]at h;subst h;simp[binOp,Op.intCmp,vL]
theorem M5{op:BinOp}{k k':IntKind}{a b:Int}{v:Value}(h:shiftOp op k a b=some v)(t:TypeId)(w:World)(P:Program):(binOp op t (.int k a) (.int k' b)).run P w= .ok v w:=by
 unfold shiftOp at h
 obtain⟨h1,h2⟩:=cD h
 rw[pE]at h1
 have hb:¬ b<0:=by simpa using h1
 cases op<;>simp only[reduceCtorEq]at h2
 case shl=>rw[j0 h2];simp[binOp,Op.shift,hb]
 case shr=>simp only[rL,wi]at h2;subst h2;simp[binOp,Op.shift,hb]
theorem VM{op:BinOp}{a b:ByteArray}{v:Value}(h:strOp op a b=some v)(t:TypeId)(w:World)(P:Program):(binOp op t (.string a) (.string b)).run P w= .ok v w:=by
 cases op<;>simp only[strOp,reduceCtorEq,wi]at h
 case add=>
  obtain⟨h1,h2⟩:=cn h
  simp only[wi]at h2
  subst h2
  simp only[wbi]at h1
  have:¬ ((a.size+b.size:Nat):Int)>IntKind.i64.max:=by simp[IntKind.max,IntKind.signed,IntKind.bits];omega
  simp only[binOp,Op.stringOp,wI this,wC]
 all_goals(subst h;simp[binOp,Op.stringOp,mJ])
theorem UC{op:UnOp}{x v:Value}(h:unV op x=some v)(w:World)(P:Program):(Op.unary op x).run P w= .ok v w:=by
 cases op<;>cases x<;>simp only[unV,reduceCtorEq]at h
 ·rw[j0 h];simp[Op.unary,Op.intArith]
 ·simp only[intOp]at h;rw[j0 h];simp[Op.unary,Op.intBits]
 ·simp only[wi]at h;subst h;simp[Op.unary]
theorem UB{op:UnOp}{x v:Value}(h:unV op x=some v)(m:Match){x':Value}(hx:VRel m x x'):x'=x∧VRel m v v:=by
 cases op<;>cases x<;>simp only[unV,reduceCtorEq]at h
 ·cases hx;exact⟨rfl,by rw[j0 h];exact .int _ _⟩
 ·cases hx;simp only[intOp]at h;exact⟨rfl,by rw[j0 h];exact .int _ _⟩
 ·cases hx;simp only[wi]at h;subst h;exact⟨rfl,.bool _⟩
theorem VL{op:BinOp}{k:IntKind}{a b:Int}{v:Value}(h:intOp op k a b=some v)(m:Match):VRel m v v:=by
 cases op<;>simp only[intOp,reduceCtorEq]at h
 case quo=>rw[j0 (cD h).2];exact .int _ _
 case rem=>obtain⟨_,h2⟩:=cD h;simp only[rL,wi]at h2;subst h2;exact .int _ _
 all_goals first|(rw[j0 h];exact .int _ _)|(simp only[wi]at h;subst h;exact .bool _)
theorem M6{op:BinOp}{k:IntKind}{a b:Int}{v:Value}(h:shiftOp op k a b=some v)(m:Match):VRel m v v:=by
 unfold shiftOp at h
 obtain⟨_,h2⟩:=cD h
 cases op<;>simp only[reduceCtorEq]at h2
 case shl=>rw[j0 h2];exact .int _ _
 case shr=>simp only[rL,wi]at h2;subst h2;exact .int _ _
theorem VN{op:BinOp}{a b:ByteArray}{v:Value}(h:strOp op a b=some v)(m:Match):VRel m v v:=by
 cases op<;>simp only[strOp,reduceCtorEq,wi]at h
 case add=>obtain⟨_,h2⟩:=cn h;simp only[wi]at h2;subst h2;exact .string _
 all_goals(subst h;exact .bool _)
end
section
variable[Maps]{m:Match}{w:World}{E:Env}
end
section
variable{B lo0:Nat}{m:Match}{w:World}{P:Program}
theorem xP{l:List Value}{o n:Nat}{r:List Value}(h:cut l o n=some r):o+n≤l.length∧r=(l.drop o).take n:=by
 unfold cut at h
 obtain⟨h1,h2⟩:=cn h
 simp only[wi]at h2
 exact⟨by simpa using h1,h2.symm⟩
theorem CK{l:List Value}{o n:Nat}{r:List Value}(h:cut l o n=some r):r.length=n:=by
 obtain⟨h1,rfl⟩:=xP h
 simp;omega
end
section
variable[Maps]{m:Match}{w:World}{E:Env}
theorem DT(hE:EnvOk E){t:TypeId}{cs:List Value}{off:Nat}{v:Value}(h:jC E t cs off=some v){iD:Array Value}(hc:LRel m cs iD.toList):
  ∃v',(∀w,(part t iD off).run E.P w= .ok v' w)∧VRel m v v':=by
 simp only[jC,we]at h
 obtain⟨i,h1,h2⟩:=h
 have mM:=hE.isAgg h1
 cases ha:i.agg with
 |true=>
  rw[ha]at h2 mM
  simp only[wai,we,wi]at h2
  obtain⟨l,h3,rfl⟩:=h2
  obtain⟨h4,rfl⟩:=xP h3
  refine⟨.agg (iD.extract off (off+i.size)),fun w=>by simp[part,mM,hE.oH h1],?_⟩
  have:iD.extract off (off+i.size)=((iD.toList.drop off).take i.size).toArray:=by
   apply wcJ;simp
  rw[this]
  exact .AE ((hc.drop off).take i.size)
 |false=>
  rw[ha]at h2 mM
  simp only[wS]at h2
  obtain⟨v',h3,h4⟩:=hc.get h2
  refine⟨v',fun w=>?_,h4⟩
  have:iD[off]? =some v':=by simpa using h3
  simp[part,mM,this]
end
section
variable[Maps]{m:Match}{w:World}{E:Env}
theorem Hj(hE:EnvOk E){d D:Nat}(ih:∀ t x y b x' y',eqV E d t x y=some b→VRel m x x'→VRel m y y'→∀ w,(Op.equalIn D t x' y').run E.P w= .ok b w)
  {xs ys:List Value} {DR DS:Array Value} (hx:LRel m xs DR.toList) (hy:LRel m ys DS.toList):
  ∀(fs:List Field) (b:Bool),eqFields E (eqV E d) xs ys ((fs.filter fun f=>f.name != "_").map fun f=>(f.offset,f.type))=some b→∀ w,(Op.eqFields D DR DS fs).run E.P w= .ok b w
 |[],b,h,w=>by simp[eqFields]at h;subst h;simp[Op.eqFields]
 |f::fs,b,h,w=>by
  by_cases hn:f.name= "_"
  ·have hf:(f.name != "_")=false:=by simp[hn]
   rw[wce,hf]at h
   simp only[Op.eqFields,hn,ne_eq,wcC,waa]
   exact Hj hE ih hx hy fs b (by simpa using h) w
  ·have hf:(f.name != "_")=true:=by simp[hn]
   rw[wce,hf]at h
   simp only[wah,wbk,eqFields,we]at h
   obtain⟨a,h1,c,h2,r,h3,h4⟩:=h
   obtain⟨a',h5,h6⟩:=DT hE h1 hx
   obtain⟨c',h7,h8⟩:=DT hE h2 hy
   have h9:=ih _ _ _ _ _ _ h3 h6 h8
   simp only[Op.eqFields,ne_eq,hn,not_false_eq_true,wah,wB,h5,h7,h9,wu]
   cases r with
   |true=>
    simp only[wa7,wG,waa]
    exact Hj hE ih hx hy fs b h4 w
   |false=>
    simp only[wi]at h4
    subst h4
    simp
theorem MZ(hE:EnvOk E):∀ (d k:Nat) (t:TypeId) (x y:Value) (b:Bool) (x' y':Value),eqV E d t x y=some b→VRel m x x'→VRel m y y'→∀ w,(Op.equalIn (d+k) t x' y').run E.P w= .ok b w
 |0,_,_,_,_,_,_,_,h,_,_=>by simp[eqV]at h
 |d+1,k,t,x,y,b,x',y',h,hx,hy=>by
  intro w
  rw[show d+1+k=(d+k)+1 by omega]
  simp only[eqV,we]at h
  obtain⟨i,h1,h2⟩:=h
  obtain⟨info,hi,hu,_,_,_,_,hc,VF⟩:=hE.inv h1
  split at h2
  ·rename_i a c hd
   cases hx;cases hy
   simp only[wi]at h2;subst h2
   rw[hd]at hu
   simp[Op.equalIn,waN hu]
  ·rename_i k₀ j a j' c hd
   cases hx;cases hy
   obtain⟨h3,h4⟩:=cn h2
   have:=vu h3
   subst this
   simp only[wi]at h4;subst h4
   rw[hd]at hu
   simp[Op.equalIn,waN hu,gF]
  ·rename_i a c hd
   cases hx;cases hy
   simp only[wi]at h2;subst h2
   rw[hd]at hu
   simp[Op.equalIn,waN hu,mJ,beq_toListBytes]
  ·rename_i e c hd
   cases hx
   simp only[wi]at h2;subst h2
   rw[hd]at hu
   cases hy<;>simp[Op.equalIn,waN hu]
  ·rename_i e c aX hd
   cases hy
   simp only[wi]at h2;subst h2
   rw[hd]at hu
   cases hx with
   |vC=>exact(aX rfl).elim
   |ptr h=>simp[Op.equalIn,waN hu]
  ·rename_i ms t' v hd
   cases hx;cases hy
   simp only[wi]at h2;subst h2
   rw[hd]at hu
   simp[Op.equalIn,waN hu]
  ·rename_i ms t' v hd
   cases hx;cases hy
   simp only[wi]at h2;subst h2
   rw[hd]at hu
   simp[Op.equalIn,waN hu]
  ·rename_i fs xs ys hd
   obtain⟨DR,rfl,nU⟩:=hx.DU
   obtain⟨DS,rfl,DV⟩:=hy.DU
   obtain⟨h3,h4⟩:=cn h2
   rw[hd]at hu
   have M0:E.P.fieldsOf t=fs:=by simp[Program.fieldsOf,hu]
   rw[run_equalIn_struct w (d+k) t DR DS (by rw[M0];exact hu) (hc h3).1,M0]
   rw[VF,hd]at h4
   exact Hj hE (fun t x y b x' y' h hx hy=>MZ hE d k t x y b x' y' h hx hy) nU DV fs.toList b h4 w
  ·rename_i e l c a hd
   cases hx
   simp only[wi]at h2;subst h2
   rw[hd]at hu
   cases hy<;>simp[Op.equalIn,waN hu]
  ·rename_i e l c a hd
   cases hy
   simp only[wi]at h2;subst h2
   rw[hd]at hu
   cases hx with
   |qm=>exact(‹none=none→False› rfl).elim
   |slice=>simp[Op.equalIn,waN hu]
   |empty=>simp[Op.equalIn,waN hu]
  ·rename_i a c e hd
   cases hx
   simp only[wi]at h2;subst h2
   rw[hd]at hu
   cases hy<;>simp[Op.equalIn,waN hu]
  ·rename_i a c e aX hd
   cases hy
   simp only[wi]at h2;subst h2
   rw[hd]at hu
   cases hx with
   |vD=>exact(‹none=none→False› rfl).elim
   |map=>simp[Op.equalIn,waN hu]
  ·rename_i hd
   cases hx;cases hy
   simp only[wi]at h2;subst h2
   rw[hd]at hu
   simp[Op.equalIn,waN hu]
  ·rename_i hd
   cases hx;cases hy
   simp only[wi]at h2;subst h2
   rw[hd]at hu
   simp[Op.equalIn,waN hu]
  ·rename_i hd
   cases hx;cases hy
   simp only[wi]at h2;subst h2
   rw[hd]at hu
   simp[Op.equalIn,waN hu]
  ·simp at h2
theorem VG{d:Nat}{t:TypeId}{xs ys:Array Value}{b:Bool}(h:eqV E d t (.agg xs) (.agg ys)=some b):∃ i,E.ty.get t=some i∧i.cmp=true:=by
 cases d with
 |zero=>simp[eqV]at h
 |succ d=>
  simp only[eqV,we]at h
  obtain⟨i,h1,h2⟩:=h
  refine⟨i,h1,?_⟩
  cases hd:i.desc<;>simp only[hd,reduceCtorEq]at h2
  exact(cn h2).1
theorem M3(hE:EnvOk E){d:Nat}{op:BinOp}{t:TypeId}{x y:Operand}{a b a' b':Value}{r:Bool}(h:eqV E d t a b=some r)(ha:VRel m a a')(hb:VRel m b b')
  (hn:¬ (a= .nilIface∧b= .nilIface)) (w:World):(eqGuard op t x y a' b').run E.P w= .ok () w:=by
 unfold eqGuard
 cases ha<;>cases hb<;>first
  |(exact absurd ⟨rfl,rfl⟩ hn)
  |(cases op<;>simp;done)
  |(obtain⟨i,h1,h2⟩:=VG h
    obtain⟨info,_,_,_,_,_,_,hc,_⟩:=hE.inv h1
    cases op<;>simp[run_program,(hc h2).2])
theorem M4(hE:EnvOk E){d:Nat}{t:TypeId}{x y:Operand}{a b a' b':Value}{r:Bool}(h:eqV E d t a b=some r)(hd:d≤10000)(ha:VRel m a a')(hb:VRel m b b')
  (hi:∀ k n k' n',¬(a= .int k n∧b= .int k' n')) (hs:∀ s s',¬(a= .string s∧b= .string s')) (hn:¬ (a= .nilIface∧b= .nilIface)) (w:World):
  (do eqGuard .eql t x y a' b';binOp .eql t a' b':Sem Value).run E.P w= .ok (.bool r) w∧(do eqGuard .neq t x y a' b';binOp .neq t a' b':Sem Value).run E.P w= .ok (.bool (!r)) w:=by
 have ig:(Op.equal t a' b').run E.P w= .ok r w:=by
  have:=MZ hE d (10000-d) t a b r a' b' h ha hb w
  rw[show d+(10000-d)=10000 by omega]at this
  exact this
 have h1:binOp .eql t a' b'=(do pure (.bool (←Op.equal t a' b')))∧binOp .neq t a' b'=(do pure (.bool (!(←Op.equal t a' b')))):=by
  cases ha<;>first
   |exact⟨rfl,rfl⟩
   |(cases hb<;>first|exact⟨rfl,rfl⟩|exact absurd ⟨rfl,rfl⟩ (hi _ _ _ _)|exact absurd ⟨rfl,rfl⟩ (hs _ _))
 constructor
 ·simp only[wB,M3 hE h ha hb hn w,wu,h1.1,ig,wC]
 ·simp only[wB,M3 hE h ha hb hn w,wu,h1.2,ig,wC]
end
section
variable{B lo0:Nat}{m:Match}{w:World}{P:Program}
theorem VH{op:BinOp}{t:TypeId}{x y:Operand}(h:(isConst x||isConst y)=true)(w:World)(P:Program):(eqGuard op t x y .nilIface .nilIface).run P w= .ok () w:=by
 unfold eqGuard
 cases op<;>cases x<;>cases y<;>simp_all[isConst]
theorem VI{op:BinOp}{t:TypeId}{x y:Operand}{k k':IntKind}{a b:Int}(w:World)(P:Program):(eqGuard op t x y (.int k a) (.int k' b)).run P w= .ok () w:=by
 unfold eqGuard;cases op<;>simp
theorem VJ{op:BinOp}{t:TypeId}{x y:Operand}{a b:ByteArray}(w:World)(P:Program):(eqGuard op t x y (.string a) (.string b)).run P w= .ok () w:=by
 unfold eqGuard;cases op<;>simp
end
section
variable[Maps]{m:Match}{w:World}{E:Env}
theorem UA(hE:EnvOk E){op:BinOp}{t:TypeId}{x y:Operand}{a b a' b' v:Value}(h:binV E op t x y a b=some v)(ha:VRel m a a')(hb:VRel m b b')(w:World):
  (do eqGuard op t x y a' b';binOp op t a' b':Sem Value).run E.P w= .ok v w∧VRel m v v:=by
 unfold binV at h
 split at h
 ·rename_i k n k' n'
  cases ha;cases hb
  simp only[wB,VI,wu]
  split at h
  ·exact⟨M5 h t w _,M6 h m⟩
  ·exact⟨M5 h t w _,M6 h m⟩
  ·obtain⟨h1,h2⟩:=cn h
   have:=vu h1
   subst this
   exact⟨VK h2 t w _,VL h2 m⟩
 ·cases ha;cases hb
  simp only[wB,VJ,wu]
  exact⟨VM h t w _,VN h m⟩
 ·cases ha;cases hb
  obtain⟨h1,h2⟩:=cn h
  simp only[we]at h2
  obtain⟨i,h3,h4⟩:=h2
  obtain⟨info,_,hu,_⟩:=hE.inv h3
  have ig:∀ ms,E.P.underlying t=some (.interface ms)→(Op.equal t .nilIface .nilIface).run E.P w= .ok true w:=fun ms hu=>by
   have:∀ d,(Op.equalIn (d+1) t .nilIface .nilIface).run E.P w= .ok true w:=fun d=>by simp[Op.equalIn,waN hu]
   exact this 9999
  have b1:binOp .eql t .nilIface .nilIface=(do pure (.bool (←Op.equal t .nilIface .nilIface))):=rfl
  have b2:binOp .neq t .nilIface .nilIface=(do pure (.bool (!(←Op.equal t .nilIface .nilIface)))):=rfl
  simp only[wB,VH h1,wu]
  split at h4
  ·rename_i hd
   rw[hd]at hu
   simp only[wi]at h4;subst h4
   rw[b1,wB,ig _ hu]
   exact⟨rfl,.bool _⟩
  ·rename_i hd
   rw[hd]at hu
   simp only[wi]at h4;subst h4
   rw[b2,wB,ig _ hu]
   exact⟨rfl,.bool _⟩
  ·simp at h4
 ·rename_i hi hs hn
  split at h
  ·simp only[we,wi]at h
   obtain⟨r,h1,rfl⟩:=h
   exact⟨(M4 hE h1 (by omega) ha hb (fun k n k' n' e=>hi _ _ _ _ e.1 e.2) (fun s s' e=>hs _ _ e.1 e.2) (fun e=>hn e.1 e.2) w).1,.bool _⟩
  ·simp only[we,wi]at h
   obtain⟨r,h1,rfl⟩:=h
   exact⟨(M4 hE h1 (by omega) ha hb (fun k n k' n' e=>hi _ _ _ _ e.1 e.2) (fun s s' e=>hs _ _ e.1 e.2) (fun e=>hn e.1 e.2) w).2,.bool _⟩
  ·simp at h
theorem Hl{T:Tr Value}{a:Act}(ht:fk m T a.tmps){place:Nat→Option (Nat×Nat)}:∀ {l:List (Nat×Operand)} {ps:List (Nat×Nat×Value)},evParts T place l=some ps→
  ps.length=l.length∧∀ (i j:Nat) (x:Operand),l[i]? =some (j,x)→∃ o s v,ps[i]? =some (o,s,v)∧place j=some (o,s)∧VRel m v (a.eval x)
 |[],ps,h=>by simp[evParts]at h;subst h;exact⟨rfl,fun i j x h=>by simp at h⟩
 |(i₀,x₀)::l,ps,h=>by
  simp only[evParts,we,wi]at h
  obtain⟨p,h1,v,h2,r,h3,rfl⟩:=h
  obtain⟨h4,h5⟩:=Hl ht h3
  refine⟨by simp[h4],fun i j x hx=>?_⟩
  cases i with
  |zero=>
   simp only[wQ,wi,wk]at hx
   obtain⟨rfl,rfl⟩:=hx
   exact⟨p.1,p.2,v,rfl,h1,cE ht h2⟩
  |succ i=>simpa using h5 i j x (by simpa using hx)
end
section
variable{B lo0:Nat}{m:Match}{w:World}{P:Program}
theorem DW(new:List Value):∀ (o:Nat) (l:List Value),o+new.length≤l.length→over new o l=l.take o++new++l.drop (o+new.length)
 |0,l,h=>by simp[over]
 |o+1,x::l,h=>by
  simp only[wY]at h
  simp only[over,DW new o l (by omega),wch,wat,show o+1+new.length=(o+new.length)+1 by omega,waV]
 |o+1,[],h=>by simp at h
theorem LRel.over{a a' n n':List Value}{o:Nat}(ha:LRel m a a')(hn:LRel m n n')(h:o+n.length≤a.length):LRel m (AM.over n o a) (AM.over n' o a'):=by
 rw[DW n o a h,DW n' o a' (by rw[←hn.1,←ha.1];exact h),←hn.1]
 exact((ha.take o).append hn).append (ha.drop _)
theorem M7(off:Nat):∀ (new:List Value) (k:Nat) (cs:Array Value),off+k+new.length≤cs.size→
  (new.zipIdx k).foldl (fun cs (c,j)=>cs.setIfInBounds (off+j) c) cs=(over new (off+k) cs.toList).toArray
 |[],k,cs,h=>by
  have:=DW [] (off+k) cs.toList (by simpa using h)
  simp[this]
 |v::new,k,cs,h=>by
  simp only[wY]at h
  simp only[List.zipIdx_cons,wb4]
  rw[M7 off new (k+1) _ (by simp;omega)]
  congr 1
  apply waR
  intro i
  rw[DN _ _ (by simp;omega),DN _ _ (by simp;omega)]
  simp only[Array.toList_setIfInBounds,wY]
  by_cases h1:off+(k+1)≤i∧i<off+(k+1)+new.length
  ·rw[wF h1,wF (by omega),show i-(off+k)=(i-(off+(k+1)))+1 by omega,wbo]
  ·rw[wI h1]
   by_cases h2:i=off+k
   ·subst h2
    rw[wF (by omega),wca,wF rfl,wF (by simp;omega)]
    simp
   ·rw[wI (by omega),wca,wI (by omega)]
theorem DX{place:Nat→Option (Nat×Nat)}:∀ {ps:List (Nat×Nat×Value)} {parts:List (Nat×Value)} {cells:List Value} {cells':Array Value} {l:List Value},fillV cells ps=some l→LRel m cells cells'.toList→
  ps.length=parts.length→(∀(i:Nat) (j:Nat) (x:Value),parts[i]? =some (j,x)→∃ (o s:Nat) (v:Value),ps[i]? =some (o,s,v)∧place j=some (o,s)∧VRel m v x)→
  ∃l':Array Value,Instr.fill place cells' parts=some l'∧LRel m l l'.toList
 |[],[],cells,cells',l,h,hc,_,_=>by simp[fillV]at h;subst h;exact⟨cells',rfl,hc⟩
 |[],_::_,_,_,_,_,_,hl,_=>by simp at hl
 |_::_,[],_,_,_,_,_,hl,_=>by simp at hl
 |(o,s,v)::ps,(j,x)::parts,cells,cells',l,h,hc,hl,hp=>by
  obtain⟨o₁,s₁,v₁,h1,h2,h3⟩:=hp 0 j x rfl
  simp only[wQ,wi,wk]at h1
  obtain⟨rfl,rfl,rfl⟩:=h1
  simp only[fillV]at h
  obtain⟨h4,h5⟩:=cn h
  simp only[wA,wbp,wbi,ju]at h4
  rw[ju]at h5
  have hv:=yg h3
  have nU:x.cells.toList=cg x:=ju x
  have bf:x.cells.size=s:=by rw[←waF,nU,←hv.1];exact h4.1
  have eD:cells.length=cells'.size:=by rw[hc.1];simp
  obtain⟨l',h6,h7⟩:=DX (place:=place) (parts:=parts) (cells':=(over (cg x) o cells'.toList).toArray) h5 (by
    simpa using hc.over hv (by rw[h4.1];exact h4.2)) (by simpa using hl)
    (fun i j x hx=>by simpa using hp (i+1) j x (by simpa using hx))
  refine⟨l',?_,h7⟩
  simp only[Instr.fill,h2]
  rw[wI (by simp only[bf,ne_eq,wcC,decide_false,wct,wT];omega)]
  have hz:x.cells.zipIdx.foldl (fun cs (c,j)=>cs.setIfInBounds (o+j) c) cells'=(over (cg x) o cells'.toList).toArray:=by
   rw[←wcA,Array.toList_zipIdx,nU]
   exact M7 o (cg x) 0 cells' (by rw[←hv.1,h4.1];omega)
  rw[←h6,←hz]
end
section
variable[Maps]{m:Match}{w:World}{E:Env}
end
section
variable[Maps]{B lo0:Nat}{m:Match}{H:Heap}{w:World}{E:Env}
end
section
variable{B lo0:Nat}{m:Match}{w:World}{P:Program}
end
section
variable[Maps]{B lo0:Nat}{m:Match}{H:Heap}{w:World}{E:Env}
theorem L4(hE:EnvOk E)(hR:Rel B lo0 m H w){t:TypeId}{x x' v:Value}(h:loadV E H t x=some v)(hx:VRel m x x'):∃ v',(Instr.loadAt t x').run E.P w= .ok v' w∧VRel m v v':=by
 unfold loadV at h
 split at h
 ·rename_i r o
  cases hx with
  |ptr hm=>
   rename_i p
   split at h
   ·rename_i cells bK dw hr
    simp only[we]at h
    obtain⟨i,h1,h2⟩:=h
    obtain⟨⟨C,e,fr,c1,_,_,c4,c5⟩,_⟩:=hR.obj r p _ hm hr
    have mM:=hE.isAgg h1
    cases ha:i.agg with
    |true=>
     rw[ha]at h2 mM
     simp only[wai,we,wi]at h2
     obtain⟨l,h3,rfl⟩:=h2
     obtain⟨h4,rfl⟩:=xP h3
     have kU:∀ (j:Nat) (v:Value),((C.toList.drop (p.base+o)).take i.size)[j]? =some v→w.cell? (Addr.add ⟨p.ax,p.base+o,none⟩ j)=some v:=fun j v hv=>by
      rw[wab]at hv
      split at hv
      ·rw[add_plain,cell?_at c1,←hv,wae];simp
      ·simp at hv
     have bj:((C.toList.drop (p.base+o)).take i.size).length=i.size:=by simp;omega
     have bG:=run_loadCells_list (P:=E.P) w ⟨p.ax,p.base+o,none⟩ _ kU
     rw[bj]at bG
     refine⟨.agg ((C.toList.drop (p.base+o)).take i.size).toArray,?_,?_⟩
     ·simp only[Instr.loadAt,Instr.sureAddr,loadVar,wB,wC,wu,mM,hE.oH h1,bG,wah]
     ·refine .AE ⟨by rw[bj];simp;omega,fun j v v' hv dq=>?_⟩
      rw[wab]at hv dq
      split at hv
      ·rename_i hj
       rw[wF hj]at dq
       rw[wae]at hv dq
       obtain⟨rD,d1,d2⟩:=c5 (o+j) v hv
       rw[show p.base+o+j=p.base+(o+j) by omega]at dq
       simp only[wao]at dq
       rw[d1]at dq;cases dq;exact d2
      ·simp at hv
    |false=>
     rw[ha]at h2 mM
     simp only[wS]at h2
     obtain⟨v',d1,d2⟩:=c5 o v h2
     exact⟨v',by simp[Instr.loadAt,Instr.sureAddr,loadVar,mM,cell?_at c1,d1],d2⟩
   ·simp at h
 ·simp at h
theorem Uz(hE:EnvOk E)(hR:Rel B lo0 m H w){t:TypeId}{x x' v v':Value}{H':Heap}(h:tI E H t x v=some H')(hx:VRel m x x')(hv:VRel m v v'):
  ∃w',(Instr.storeAt t x' v').run E.P w= .ok () w'∧Good B lo0 m H w m H' w':=by
 unfold tI at h
 split at h
 ·rename_i r o
  cases hx with
  |ptr hm=>
   rename_i p
   simp only[we]at h
   obtain⟨n,h1,h2⟩:=h
   obtain⟨h3,h4⟩:=cn h2
   have hl:=yg hv
   obtain⟨w',h5,h6⟩:=xS (P:=E.P) hR hm h4 hl
   refine⟨w',?_,h6⟩
   have bf:v'.cells.size=n:=by rw[←waF,ju,←hl.1];simpa using h3
   simp only[Instr.storeAt,Instr.sureAddr,storeVar,wB,wC,wu,hE.size h1,bf,ne_eq,wcC,waa,ju,h5]
 ·simp at h
theorem UF(hE:EnvOk E){s:TypeId}{x x' v:Value}{f:Nat}(h:fieldAddrV E s x f=some v)(hx:VRel m x x')(w:World):∃ v',(Instr.fieldAt s x' f).run E.P w= .ok v' w∧VRel m v v':=by
 simp only[fieldAddrV,we]at h
 obtain⟨i,h1,h2⟩:=h
 split at h2
 ·rename_i fs r o hd
  cases hx with
  |ptr hm=>
   rename_i p
   simp only[we]at h2
   obtain⟨vE,h3,n,h4,h5⟩:=h2
   obtain⟨h6,h7⟩:=cD h5
   simp only[wi]at h7
   subst h7
   have hn:n≠0:=by intro e;subst e;simp at h6
   refine⟨_,?_,.ptr hm⟩
   have hf:fs[f]? =some vE:=by simpa using h3
   simp only[Instr.fieldAt,wB,hE.desc h1 hd,wu,hf,Instr.sureAddr,wC,fieldPlace,hE.size h4,hn,waa,add_plain,wbH]
 ·simp at h2
theorem UH(hE:EnvOk E){t:TypeId}{x x' ix Ba v:Value}(h:indexAddrV E t x ix=some v)(hx:VRel m x x')(hi:VRel m ix Ba)(w:World):
  ∃v',(Instr.indexAt t x' Ba).run E.P w= .ok v' w∧VRel m v v':=by
 simp only[indexAddrV,we]at h
 obtain⟨i,h1,h2⟩:=h
 split at h2
 ·rename_i e r o len cap k n hd
  cases hi
  simp only[we,wi]at h2
  obtain⟨j,h3,s,h4,rfl⟩:=h2
  obtain⟨rfl,h5⟩:=at?_eq h3
  cases hx with
  |slice hm hc he hi=>
   refine⟨_,?_,.ptr hm⟩
   have hlt:(0:Int)≤(j:Int)∧(j:Int)<(len:Int):=by omega
   simp only[Instr.indexAt,asIntOf,wB,wC,wu,hE.desc h1 hd,hlt,and_self,wah,hE.size h4,waD,add_plain,wbH]
  |empty a hm he=>omega
 ·rename_i len e r o k n hd
  cases hi
  cases hx with
  |ptr hm=>
   simp only[we,wi]at h2
   obtain⟨j,h3,s,h4,rfl⟩:=h2
   obtain⟨rfl,h5⟩:=at?_eq h3
   refine⟨_,?_,.ptr hm⟩
   have hlt:(0:Int)≤(j:Int)∧(j:Int)<(len:Int):=by omega
   simp only[Instr.indexAt,asIntOf,Instr.sureAddr,wB,wC,wu,hE.desc h1 hd,hlt,and_self,wah,hE.size h4,waD,add_plain,wbH]
 ·simp at h2
theorem UG(hE:EnvOk E){t:TypeId}{x x' v:Value}{f:Nat}(h:fieldV E t x f=some v)(hx:VRel m x x')(w:World):∃ v',(Instr.field t x' f).run E.P w= .ok v' w∧VRel m v v':=by
 simp only[fieldV,we]at h
 obtain⟨i,h1,h2⟩:=h
 split at h2
 ·rename_i fs cs hd
  obtain⟨iD,rfl,hc⟩:=hx.DU
  simp only[we]at h2
  obtain⟨vE,h3,h4⟩:=h2
  obtain⟨v',h5,h6⟩:=DT hE h4 hc
  have hf:fs[f]? =some vE:=by simpa using h3
  exact⟨v',by simp only[Instr.field,wB,hE.desc h1 hd,wu,hf,asAgg,wC,h5],h6⟩
 ·simp at h2
theorem UI(hE:EnvOk E){t:TypeId}{x x' ix Ba v:Value}(h:indexV E t x ix=some v)(hx:VRel m x x')(hi:VRel m ix Ba)(w:World):
  ∃v',(Instr.index t x' Ba).run E.P w= .ok v' w∧VRel m v v':=by
 simp only[indexV,we]at h
 obtain⟨i,h1,h2⟩:=h
 split at h2
 ·rename_i len e cs k n hd
  cases hi
  obtain⟨iD,rfl,hc⟩:=hx.DU
  simp only[we]at h2
  obtain⟨j,h3,s,h4,h5⟩:=h2
  obtain⟨rfl,h6⟩:=at?_eq h3
  obtain⟨v',h7,h8⟩:=DT hE h5 hc
  have hlt:(0:Int)≤(j:Int)∧(j:Int)<(len:Int):=by omega
  exact⟨v',by simp only[Instr.index,asIntOf,wB,wC,wu,hE.desc h1 hd,hlt,and_self,wah,hE.size h4,waD,h7],h8⟩
 ·rename_i s k n hd
  cases hi;cases hx
  simp only[we,wi]at h2
  obtain⟨j,h3,b,h4,rfl⟩:=h2
  obtain⟨rfl,h6⟩:=at?_eq h3
  refine⟨_,?_,.int _ _⟩
  have hb:s[j]? =some b:=by
   have h7:s.data[j]? =some b:=by simpa using h4
   rw[getElem?_pos s j h6]
   have h8:=(w0.1 h7).2
   rw[←h8]
   rfl
  simp only[Instr.index,asIntOf,wB,wC,wu,hE.desc h1 hd,wco,wah,waD,hb]
 ·simp at h2
end
section
variable[Maps]{B lo0:Nat}{m:Match}{H:Heap}{w:World}{E:Env}
theorem M8(hE:EnvOk E):∀ {fs:List Field} {pl:List (Nat×Nat)},placesV E fs=some pl→fs.mapM (fun f=>(E.P.info? f.type).map fun i=>(f.offset,i.size))=some pl
 |[],pl,h=>by simp[placesV]at h;subst h;simp
 |f::fs,pl,h=>by
  simp only[placesV,Env.size,we,wi]at h
  obtain⟨s,⟨i,h1,rfl⟩,l,h2,rfl⟩:=h
  obtain⟨info,h3,_,h4,_⟩:=hE.inv h1
  simp[List.mapM_cons,h3,h4,M8 hE h2]
theorem Ux(hE:EnvOk E){T:Tr Value}{a:Act}(ht:fk m T a.tmps){t:TypeId}{parts:Array (Nat×Operand)}{v:Value}(h:gD E T t parts.toList=some v)(w:World):
  ∃v',(Instr.build t (parts.map fun(i,x)=>(i,a.eval x))).run E.P w= .ok v' w∧VRel m v v':=by
 simp only[gD,we]at h
 obtain⟨i,h1,z,hz,h2⟩:=h
 obtain⟨info,h3,hu,_,_,_,VO,_⟩:=hE.inv h1
 obtain⟨DY,ug⟩:=VO z hz
 have kS:LRel m (cg z) z.cells.toList:=by rw[ju];exact yg (plainV_rel ug)
 have M9:∀ {ps:List (Nat×Nat×Value)} {place:Nat→Option (Nat×Nat)},evParts T place parts.toList=some ps→ps.length=(parts.map fun(i,x)=>(i,a.eval x)).toList.length∧
   ∀(i:Nat) (j:Nat) (x:Value),(parts.map fun(i,x)=>(i,a.eval x)).toList[i]? =some (j,x)→∃ (o s:Nat) (v:Value),ps[i]? =some (o,s,v)∧place j=some (o,s)∧VRel m v x:=by
  intro ps place hp
  obtain⟨h4,h5⟩:=Hl ht hp
  refine⟨by simp[h4],fun i j x hx=>?_⟩
  simp only[Array.toList_map,war,wa6,wk]at hx
  obtain⟨⟨j',x'⟩,h6,h7,h8⟩:=hx
  simp only at h7 h8
  subst h7;subst h8
  exact h5 i j' x' h6
 split at h2
 ·rename_i fs hd
  rw[hd]at hu
  simp only[we,wi]at h2
  obtain⟨pl,h4,ps,h5,l,h6,rfl⟩:=h2
  obtain⟨h7,h8⟩:=M9 h5
  obtain⟨l',h9,aZ⟩:=DX (place:=fun k=>pl[k]?) h6 kS h7 h8
  refine⟨.agg l',run_build w t _ l' ?_,by simpa using VRel.AE aZ⟩
  simp only[Program.built,h3,hu,DY,M8 hE h4]
  simpa using h9
 ·rename_i n e hd
  rw[hd]at hu
  simp only[Env.size,we,wi]at h2
  obtain⟨s,⟨j,hj,rfl⟩,ps,h5,l,h6,rfl⟩:=h2
  obtain⟨ziN,aY,_,bH,_⟩:=hE.inv hj
  obtain⟨h7,h8⟩:=M9 h5
  obtain⟨l',h9,aZ⟩:=DX h6 kS h7 h8
  refine⟨.agg l',run_build w t _ l' ?_,by simpa using VRel.AE aZ⟩
  simp only[Program.built,h3,hu,DY,aY,←bH]
  exact h9
 ·simp at h2
end
section
variable{B lo0:Nat}{m:Match}{w:World}{P:Program}
theorem FG(z:List Value):∀ n,(df z n).length=n*z.length
 |0=>by simp[df]
 |n+1=>by rw[df,wN,FG z n,Nat.succ_mul];omega
theorem Na(z:List Value):∀ (n i:Nat),i<n*z.length→(df z n)[i]? =z[i%z.length]?
 |0,i,h=>by simp at h
 |n+1,i,h=>by
  rw[Nat.succ_mul]at h
  by_cases hi:i<z.length
  ·rw[df,waf hi,Nat.mod_eq_of_lt hi]
  ·rw[df,waB (by omega),Na z n _ (by omega)]
   congr 1
   rw[←Nat.mod_eq_sub_mod (by omega)]
theorem zZ(z:Array Value)(n:Nat):((Array.range (n*z.size)).map (z[· %z.size]!)).toList=df z.toList n:=by
 apply waR
 intro i
 by_cases hi:i<n*z.size
 ·have hz:0<z.size:=Nat.pos_of_ne_zero fun e=>by rw[e]at hi;simp at hi
  have hm:i%z.size<z.size:=Nat.mod_lt _ hz
  rw[Na z.toList n i (by simpa using hi)]
  simp[hi,hm,getElem!_pos]
 ·rw[wak (by simp;omega),wak (by rw[FG];simp;omega)]
theorem yB{z:Value}(h:plainV z=true):LRel m (cg z) (cg z):=yg (plainV_rel h)
theorem LRel.repeat{z z':List Value}(h:LRel m z z'):∀ n,LRel m (df z n) (df z' n)
 |0=> .nil m
 |n+1=>h.append (LRel.repeat h n)
end
section
variable[Maps]{B lo0:Nat}{m:Match}{H:Heap}{w:World}{E:Env}
theorem Uv(hE:EnvOk E)(hR:Rel B lo0 m H w){t:TypeId}{i:TI}{z:Value}(h1:E.ty.get t=some i)(hz:i.zero=some z):
  ∃v' w' m',(Instr.alloc t true (.tuple #[])).run E.P w= .ok v' w'∧Good B lo0 m H w m' (H.newRow (cg z)) w'∧VRel m' (ptr H.next 0) v':=by
 obtain⟨h2,h3⟩:=hE.zero h1 hz
 have hl:LRel m (cg z) z.cells.toList:=by rw[ju];exact yB h2
 refine⟨.pointer (some ⟨w.heap.size,0,none⟩),_,_,?_,Good.newRow hR (w':=w.alloc (.cells z.cells t)) t rfl ⟨rfl,rfl⟩ hl,?_⟩
 ·simp only[Instr.alloc,wB,h3,wu,newVar,newRow,wbN,wC]
  rfl
 ·exact VRel.ptr (o:=0) (jx _ _ _)
theorem Uw(hR:Rel B lo0 m H w){t:TypeId}{v v':Value}(hv:VRel m v v')(P:Program):
  ∃p' w' m',(Instr.box t v').run P w= .ok p' w'∧Good B lo0 m H w m' (H.newRow (cg v)) w'∧VRel m' (ptr H.next 0) p':=by
 have hl:LRel m (cg v) v'.cells.toList:=by rw[ju];exact yg hv
 refine⟨.pointer (some ⟨w.heap.size,0,none⟩),_,_,?_,Good.newRow hR (w':=w.alloc (.cells v'.cells t)) t rfl ⟨rfl,rfl⟩ hl,?_⟩
 ·simp only[Instr.box,wB,newVar,newRow,wbN,wu,wC]
  rfl
 ·exact VRel.ptr (o:=0) (jx _ _ _)
theorem Uy(hE:EnvOk E)(hR:Rel B lo0 m H w){T:Tr Value}{a:Act}(ht:fk m T a.tmps){t e:TypeId}{i j:TI}{len:Nat}{parts:Array (Nat×Operand)}{z:Value}{ps:List (Nat×Nat×Value)}{l:List Value}
  (h1:E.ty.get t=some i) (hd:i.desc= .slice e) (h2:E.ty.get e=some j) (hz:j.zero=some z) (h3:(cg z).length=j.size) (h4:len*j.size≤10000000) (h5:j.size≠0)
  (h6:evParts T (fun k=>some (k*j.size,j.size)) parts.toList=some ps) (h7:fillV (df (cg z) len) ps=some l):
  ∃v' w' m',(Instr.buildSlice t len (parts.map fun(i,x)=>(i,a.eval x))).run E.P w= .ok v' w'∧Good B lo0 m H w m' (H.newRow l) w'∧VRel m' (.slice (some ⟨H.next,0,none⟩) len len) v':=by
 obtain⟨hp,kS⟩:=hE.zero h2 hz
 have Hn:z.cells.size=j.size:=by rw[←waF,ju,h3]
 have uI:LRel m (df (cg z) len) (((Array.range (len*j.size)).map (z.cells[· %z.cells.size]!))).toList:=by
  rw[←Hn,zZ,ju]
  exact(yB hp).repeat len
 obtain⟨h8,h9⟩:=Hl ht h6
 obtain⟨l',aZ,aY⟩:=DX (place:=fun k=>some (k*j.size,j.size)) (parts:=(parts.map fun(i,x)=>(i,a.eval x)).toList) h7 uI (by simp[h8]) (fun i k x hx=>by
  simp only[Array.toList_map,war,wa6,wk]at hx
  obtain⟨⟨j',x'⟩,e1,e2,e3⟩:=hx
  simp only at e2 e3
  subst e2;subst e3
  exact h9 i j' x' e1)
 refine⟨.slice (some ⟨w.heap.size,0,none⟩) len len,_,_,?_,Good.newRow hR (w':=w.alloc (.cells l' e)) e rfl ⟨rfl,rfl⟩ aY,?_⟩
 ·have fF:¬ len*j.size>2^24:=by omega
  by_cases h0:len*j.size=0
  ·have:len=0:=by rcases Nat.mul_eq_zero.1 h0 with h|h;exact h;exact absurd h h5
   subst this
   have DZ:∀ f:Nat→Value,(Array.range 0).map f= #[]:=fun f=>by simp
   rw[wb2,DZ]at aZ
   have eA:¬ (0>2^24):=by omega
   simp only[Instr.buildSlice,wB,hE.desc h1 hd,wu,hE.oH h2,wb2,wah,DZ]
   rw[wI eA]
   simp only[wB,wC,wu,aZ,newRow,wbN]
   rfl
  ·simp only[Instr.buildSlice,wB,hE.desc h1 hd,wu,hE.oH h2,fF,waa,h0,kS,wC,aZ,newRow,wbN]
   rfl
 ·have:=VRel.slice (m:=ez m H.next ⟨w.heap.size,0,l'.size,true,0⟩) (r:=H.next) (o:=0) (l:=len) (c:=len) (c':=len) (jx _ _ _) (wy _) (fun _=>rfl) (fun h=>by cases h)
  exact this
end
section
variable[Maps]{B lo0:Nat}{m:Match}{H:Heap}{w:World}{E:Env}
end
section
variable{B lo0:Nat}{m:Match}{w:World}{P:Program}
theorem Ks(dC:Nat):∀ (n c:Nat),c<dC→Builtin.growBy dC n c≤2*dC+512
 |0,c,h=>by simp only[Builtin.growBy];omega
 |n+1,c,h=>by
  simp only[Builtin.growBy]
  split
  ·omega
  ·by_cases h2:c+(c+768)/4<dC
   ·exact Ks dC n _ h2
   ·have:Builtin.growBy dC n (c+(c+768)/4)=c+(c+768)/4:=by
     cases n with
     |zero=>rfl
     |succ n=>simp only[Builtin.growBy];rw[wF (by omega)]
    rw[this];omega
theorem nextslicecap_le{dC cap:Nat}(h:cap<dC):Builtin.nextslicecap dC cap≤2*dC+512:=by
 unfold Builtin.nextslicecap
 split
 ·omega
 ·split
  ·omega
  ·exact Ks dC 4 cap h
theorem R8{dC cap bytes:Nat}(h:cap<dC)(hb:dC*bytes≤10000000000):¬ Builtin.nextslicecap dC cap*bytes>2^48:=by
 have h1:=nextslicecap_le h
 have h2:bytes≤dC*bytes:=Nat.le_mul_of_pos_left _ (by omega)
 have h3:Builtin.nextslicecap dC cap*bytes≤(2*dC+512)*bytes:=waQ _ h1
 have h4:(2*dC+512)*bytes=2*(dC*bytes)+512*bytes:=by rw[waW,Nat.mul_assoc]
 omega
end
section
variable[Maps]{B lo0:Nat}{m:Match}{H:Heap}{w:World}{E:Env}
theorem Kt{n:Nat}{x:Value}{l:List Value}(h:cellsOf H n x=some l):l.length=n:=by
 unfold cellsOf at h
 split at h
 ·obtain⟨h1,h2⟩:=cn h
  simp only[wi]at h2
  subst h2
  have:n=0:=by simpa using h1
  simp[this]
 ·split at h
  ·exact CK h
  ·simp at h
 ·simp at h
theorem zY(hR:Rel B lo0 m H w){n size k:Nat}{x x':Value}{l:List Value}(h:cellsOf H n x=some l)(hx:VRel m x x')(hn:k*size=n)(he:∀ a,x= .slice a 0 0→n=0):
  ∃l',LRel m l l'∧∀ w':World,w'.heap=w.heap→∀ P,(Builtin.firstCells size k x').run P w'= .ok l'.toArray w':=by
 unfold cellsOf at h
 split at h
 ·cases hx
  obtain⟨_,h⟩:=cn h
  simp only[wi]at h;subst h
  exact⟨[],.nil m,fun w' _ P=>by simp[Builtin.firstCells]⟩
 ·rename_i r o len cap
  split at h
  ·rename_i cells bK dw hr
   obtain⟨h4,h5⟩:=xP h
   cases hx with
   |slice hm hc hex hi=>
    rename_i c' p
    obtain⟨⟨C,e,fr,c1,_,_,c4,c5⟩,_⟩:=hR.obj r p _ hm hr
    refine⟨(C.toList.drop (p.base+o)).take n,⟨by rw[h5];simp;omega,fun j v v' hv dq=>?_⟩,fun w' hw P=>?_⟩
    ·rw[h5,wab]at hv
     rw[wab]at dq
     split at hv
     ·rename_i hj
      rw[wF hj]at dq
      rw[wae]at hv dq
      obtain⟨rD,d1,d2⟩:=c5 (o+j) v hv
      rw[show p.base+o+j=p.base+(o+j) by omega]at dq
      simp only[wao]at dq
      rw[d1]at dq;cases dq;exact d2
     ·simp at hv
    ·have R9:w'.heap[p.ax]? =some (.cells C e fr):=by rw[hw];exact c1
     have bj:((C.toList.drop (p.base+o)).take n).length=n:=by simp;omega
     have bG:=run_loadCells_list (P:=P) w' ⟨p.ax,p.base+o,none⟩ ((C.toList.drop (p.base+o)).take n) (fun j v hv=>by
      rw[wab]at hv
      split at hv
      ·rw[add_plain,cell?_at R9,←hv,wae];simp
      ·simp at hv)
     rw[bj]at bG
     simp only[Builtin.firstCells,hn,bG]
   |empty a hm mF=>
    have oZ:=he _ rfl
    subst oZ
    have:l=[]:=by rw[h5];simp
    subst this
    exact⟨[],.nil m,fun w' _ P=>by simp[Builtin.firstCells,hn,loadCells,loadCellsFrom]⟩
  ·simp at h
 ·simp at h
theorem Ku(hR:Rel B lo0 m H w){w':World}{z:Nat}{cells:List Value}{C:Array Value}(e:TypeId)(hw:w'.heap=w.heap.push (.cells C e))(fj:w'.os=w.os∧w'.output=w.output)
  (hc:tj m cells C 0) (hl:cells.length≤C.size):Good B lo0 m H w (ez m H.next ⟨w.heap.size,0,C.size,false,z⟩) (H.dd z cells) w':=by
 refine Good.add hR (.cells C e) (.row cells (some (H.next,z)) true) _ rfl hw fj ⟨⟨C,e,(0,0),by rw[hw];simp,rfl,fun _ i _ h=>by simp at h,by simpa using hl,fun i v hv=>?_⟩,rfl,fun g z' h=>by
   simp only[wi,wk]at h;exact h.2⟩
  (by simp[Heap.dd,eU,Tr.force_eq]) (by simp[Heap.dd,eU,Tr.force_eq]) (fun j x hx=>?_) (fun g l hl=>?_) (fun c g z' t h=>by
   simp only[AObj.row.injEq,wi,wk]at h;exact⟨h.2.1.1.symm,h.2.2.symm⟩)
 ·obtain⟨v',h1,h2⟩:=hc i v hv
  exact⟨v',h1,h2.mono (pe _ hR.pg)⟩
 ·simp only[Heap.dd,eU,Tr.force_eq]at hx
  exact Tr.dm hx
 ·simp only[Heap.dd,eU,Tr.force_eq]at hl
  rcases Tr.dm hl with⟨h,_⟩|⟨_,h⟩
  ·exact .inl h
  ·exact .inr h
def appendTail(size:Nat)(e:TypeId)(s:Value)(base:Option Addr)(dr gh n:Nat)(zeros:Bool)(mayShare:Sem Bool)(Kv:Sem (Array Value)):Sem Value:=do
 let dC:=dr+n
 if dC≤gh then
  let new ←Kv
  if let some a:=base then storeCells (a.add (dr*size)) new.toList
  pure (.slice base dC gh)
 else
  if(dC:Int)>IntKind.i64.max∧(zeros∨(←typeInfo e).bytes=0)then runtimePanic (.error "growslice: len out of range")
  if Builtin.nextslicecap dC gh*(←typeInfo e).bytes>2^48 then(if zeros then runtimePanic (.error "growslice: len out of range")else do
   if !(←mayShare)then mark .noRoom
   unsupported (.resourceLimit "append: a slice or a string whose bytes no memory bears"))
  let jX ←choose (.appendCap dC gh e)
  askRoom (jX*(←typeInfo e).bytes)
  let aT ←Builtin.firstCells size dr s
  let new ←Kv
  let rest:=Builtin.zeroCells (←zeroValue e).cells (jX-dC)
  pure (.slice (some (←newRow e (aT++new++rest))) dC jX)
end
section
variable[Maps]{B lo0:Nat}{m:Match}{H:Heap}{w:World}{E:Env}
end
section
variable{B lo0:Nat}{m:Match}{w:World}{P:Program}
theorem FF{a b:Nat}(h:Nat.ble a b=false):¬ a≤b:=fun ck=>by rw[wP ck]at h;cases h
theorem Sa{i:TI}{dC:Nat}(h:tn i dC=true):∃ z,i.zero=some z∧i.size≠0∧dC*i.bytes≤10000000000∧dC≤1000000000∧(cg z).length=i.size:=by
 unfold tn at h
 split at h
 ·rename_i z hz
  simp only[wA,wbt,wbi,wbp]at h
  obtain⟨⟨⟨h1,h2⟩,h3⟩,h4⟩:=h
  refine⟨z,hz,?_,h2,h3,h4⟩
  intro e
  rw[e]at h1
  simp at h1
 ·simp at h
end
section
variable[Maps]{B lo0:Nat}{m:Match}{H:Heap}{w:World}{E:Env}
theorem Sb(hE:EnvOk E){e:TypeId}{i:TI}(h1:E.ty.get e=some i){dr gh k:Nat}(hg:tn i (dr+k)=true)(hc:¬ dr+k≤gh)
  {s:Value} {base:Option Addr} {zeros:Bool} {sh:Sem Bool} {app:Sem (Array Value)} {aT new:List Value}
  (hold:(Builtin.firstCells i.size dr s).run E.P w.drew= .ok aT.toArray w.drew) (xQ:app.run E.P w.drew= .ok new.toArray w.drew):
  ∃jX rest,dr+k≤jX∧rest.length=(jX-(dr+k))*i.size∧
   (appendTail i.size e s base dr gh k zeros sh app).run E.P w= .ok (.slice (some ⟨w.heap.size,0,none⟩) (dr+k) jX) (w.drew.alloc (.cells (aT++new++rest).toArray e)):=by
 obtain⟨z,hz,h2,h3,h4,h5⟩:=Sa hg
 obtain⟨hp,kS⟩:=hE.zero h1 hz
 obtain⟨info,hi,hb⟩:=hE.bytes h1
 have Sc:¬ (((dr+k:Nat):Int)>IntKind.i64.max∧(zeros=true∨info.bytes=0)):=fun h=>by
  have:=h.1;simp[IntKind.max,IntKind.signed,IntKind.bits]at this;omega
 have lI:¬ Builtin.nextslicecap (dr+k) gh*info.bytes>2^48:=by rw[hb];exact R8 (by omega) h3
 let q:=Question.appendCap (dr+k) gh e
 let nc:=q.cut (w.tape w.drawn q)
 have CL:dr+k≤nc:=by show dr+k≤dr+k+_;omega
 have Sd:q.forced=false:=rfl
 refine⟨nc,df (cg z) (nc-(dr+k)),CL,by rw[FG,h5],?_⟩
 have aR:(choose (.appendCap (dr+k) gh e)).run E.P w= .ok nc w.drew:=by rw[run_choose];exact wI (by rw[Sd];simp)
 have CM:Builtin.zeroCells z.cells (nc-(dr+k))=(df (cg z) (nc-(dr+k))).toArray:=by
  apply wcJ
  unfold Builtin.zeroCells
  rw[zZ,ju]
 have tq:(aT.toArray++new.toArray++(df (cg z) (nc-(dr+k))).toArray)=(aT++new++df (cg z) (nc-(dr+k))).toArray:=by simp
 unfold appendTail
 simp only[hc,waa,wB,hi,wu]
 rw[wI Sc]
 simp only[wB,hi,wu]
 rw[wI lI]
 simp only[wB,aR,hi,run_askRoom,hold,xQ,kS,CM,tq,newRow,wbN,wC,wu]
 rfl
end
section
variable{B lo0:Nat}{m:Match}{w:World}{P:Program}
theorem z7{e:TypeId}{size dr gh k:Nat}(hc:dr+k≤gh){s:Value}{base:Option Addr}{zeros:Bool}{sh:Sem Bool}{app:Sem (Array Value)}{new:List Value}{P:Program}
  (xQ:app.run P w= .ok new.toArray w) {w':World} (dt:(match base with
   |some a=>(storeCells (a.add (dr*size)) new).run P w
   |none=> .ok () w)= .ok () w'):
  (appendTail size e s base dr gh k zeros sh app).run P w= .ok (.slice base (dr+k) gh) w':=by
 unfold appendTail
 simp only[hc,wah,wB,xQ,wu]
 cases base with
 |none=>simp only at dt;cases dt;simp
 |some a=>simp only at dt;simp[dt]
theorem Se{new cC:List Value}(hn:LRel m new cC)(h:new.all isCell=true):cC.all isCell=true:=by
 rw[waC]at h⊢
 intro v' dq
 obtain⟨i,hi⟩:=wbx.1 dq
 have hlt:i<new.length:=by rw[hn.1];exact(wD.1 hi).1
 rw[FH (hn.2 i _ v' (wj hlt) hi)]
 exact h _ (wam hlt)
end
section
variable[Maps]{B lo0:Nat}{m:Match}{H:Heap}{w:World}{E:Env}
theorem Kw(hE:EnvOk E)(hR:Rel B lo0 m H w){e:TypeId}{s s' v:Value}{k:Nat}{new cC:List Value}{H':Heap}(h:appendV E H e s k new=some (v,H'))(hs:VRel m s s')(hn:LRel m new cC)
  {i:TI} (h1:E.ty.get e=some i) (hk:new.length=k*i.size) {zeros:Bool} {sh:Sem Bool} {app:Sem (Array Value)} (xQ:∀ w':World,w'.heap=w.heap→app.run E.P w'= .ok cC.toArray w'):
  ∃base dr gh,s'= .slice base dr gh∧∃ v' w' m',(appendTail i.size e s' base dr gh k zeros sh app).run E.P w= .ok v' w'∧Good B lo0 m H w m' H' w'∧VRel m' v v':=by
 simp only[appendV,we]at h
 obtain⟨i',dS,h⟩:=h
 rw[h1]at dS
 cases dS
 have z8:=xQ w rfl
 have Sf:=xQ w.drew rfl
 have xR:∀ {s':Value} {base:Option Addr} {len cap:Nat} {aT old':List Value},tn i (len+k)=true→¬ len+k≤cap→LRel m aT old'→aT.length=len*i.size→
   (Builtin.firstCells i.size len s').run E.P w.drew= .ok old'.toArray w.drew→
   ∃jX rest,len+k≤jX∧(appendTail i.size e s' base len cap k zeros sh app).run E.P w= .ok (.slice (some ⟨w.heap.size,0,none⟩) (len+k) jX) (w.drew.alloc (.cells (old'++cC++rest).toArray e))∧
    tj m (aT++new) (old'++cC++rest).toArray 0∧(aT++new).length≤(old'++cC++rest).toArray.size∧jX*i.size≤(old'++cC++rest).toArray.size:=by
  intro s' base len cap aT old' hg hc ho fN Sg
  obtain⟨jX,rest,h2,h3,h4⟩:=Sb (base:=base) (zeros:=zeros) (sh:=sh) hE h1 hg hc Sg Sf
  have z9:=ho.append hn
  refine⟨jX,rest,h2,h4,fun j x hx=>?_,by simp[←ho.1,←hn.1],?_⟩
  ·obtain⟨x',h5,h6⟩:=z9.get hx
   refine⟨x',?_,h6⟩
   simp only[wau,List.getElem?_toArray]
   rw[waf (wD.1 h5).1]
   exact h5
  ·simp only[List.size_toArray,wN,←ho.1,←hn.1,fN,hk,h3]
   have:jX=(len+k)+(jX-(len+k)):=by omega
   have e2:jX*i.size=(len+k)*i.size+(jX-(len+k))*i.size:=by rw[←waW,←this]
   rw[e2,waW]
   exact wy _
 split at h
 ·rename_i len cap
  cases hs
  refine⟨none,len,cap,rfl,?_⟩
  cases hb:Nat.ble (len+k) cap with
  |true=>
   rw[hb]at h
   simp only[wai,wi,wk]at h
   obtain⟨rfl,rfl⟩:=h
   exact⟨_,w,m,z7 (by simpa using hb) z8 rfl,.refl hR,.qm _ _⟩
  |false=>
   rw[hb]at h
   obtain⟨h2,h3⟩:=cD h
   simp only[wbM,waM,wbp]at h2
   obtain⟨h2,rfl⟩:=h2
   simp only[wi,wk]at h3
   obtain⟨rfl,rfl⟩:=h3
   obtain⟨nc,rest,h4,h5,h6,h7,h8⟩:=xR (s':= .slice none 0 cap) (base:=none) (aT:=[]) (old':=[]) h2 (FF hb) (.nil m) (by simp) (by simp[Builtin.firstCells])
   refine⟨_,_,_,h5,Ku (z:=i.size) (C:=(([]:List Value)++cC++rest).toArray) (w':=w.drew.alloc (.cells (([]:List Value)++cC++rest).toArray e)) hR e rfl ⟨rfl,rfl⟩ h6 h7,?_⟩
   exact VRel.slice (o:=0) (jx _ _ _) h4 (fun h=>by cases h) (fun _=>by simpa using h8)
 ·rename_i r o len cap
  cases hs with
  |slice hm hc hex hi=>
   rename_i c' p
   refine⟨some ⟨p.ax,p.base+o,none⟩,len,c',rfl,?_⟩
   cases hb:Nat.ble (len+k) cap with
   |true=>
    have ck:len+k≤cap:=by simpa using hb
    rw[hb]at h
    simp only[wai]at h
    cases jY:Nat.beq k 0 with
    |true=>
     rw[jY]at h
     have:k=0:=by simpa using jY
     subst this
     simp only[wai,wi,wk]at h
     obtain⟨rfl,rfl⟩:=h
     have oZ:cC=[]:=by
      have:new=[]:=wby.1 (by rw[hk];simp)
      subst this
      exact hn.mG
     subst oZ
     exact⟨_,w,m,z7 (wK ck hc) z8 (by simp[storeCells]),.refl hR,.slice hm hc hex hi⟩
    |false=>
     rw[jY]at h
     simp only[wS,we,wi,wk]at h
     obtain⟨H₁,h2,rfl,rfl⟩:=h
     obtain⟨w',h3,h4⟩:=xS (P:=E.P) hR hm h2 hn
     refine⟨_,w',m,z7 (wK ck hc) z8 ?_,h4,.slice hm hc hex hi⟩
     simp only[add_plain,wbH]
     exact h3
   |false=>
    have rE:¬ len+k≤cap:=FF hb
    rw[hb]at h
    obtain⟨h2,h3⟩:=cD h
    simp only[waM]at h2
    split at h3
    ·rename_i cells dw hr
     simp only[we,wi,wk]at h3
     obtain⟨l,h4,rfl,rfl⟩:=h3
     have tr:=(hR.obj r p _ hm hr).2.1
     have xT:c'=cap:=hex (by rw[tr];rfl)
     subst xT
     have uI:cellsOf H (len*i.size) (.slice (some ⟨r,o,none⟩) len c')=some l:=by simp only[cellsOf,hr];exact h4
     obtain⟨l',h5,h6⟩:=zY (size:=i.size) (k:=len) hR uI (.slice hm hc hex hi) rfl (fun a e=>by cases e;simp)
     obtain⟨nc,rest,h7,h8,h9,aZ,aY⟩:=xR (base:=some ⟨p.ax,p.base+o,none⟩) h2 rE h5 (CK h4) (h6 w.drew rfl E.P)
     exact⟨_,_,_,h8,Ku (z:=i.size) (C:=(l'++cC++rest).toArray) (w':=w.drew.alloc (.cells (l'++cC++rest).toArray e)) hR e rfl ⟨rfl,rfl⟩ h9 aZ,VRel.slice (o:=0) (jx _ _ _) h7 (fun h=>by cases h) (fun _=>by simpa using aY)⟩
    ·rename_i cells g z hr
     obtain⟨h4,h5⟩:=cn h3
     simp only[wA,wbp,wbi]at h4
     obtain⟨⟨⟨h4,an⟩,rfl⟩,kU⟩:=h4
     simp only[we,wi,wk]at h5
     obtain⟨l,h6,H₁,h7,rfl,rfl⟩:=h5
     obtain⟨⟨C,e₀,fr,c1,c2,c3,c4,c5⟩,tr,hz⟩:=hR.obj r p _ hm hr
     have oA:p.exact=false:=by rw[tr];rfl
     have Aa:p.z=i.size:=hz g i.size rfl
     have lI:=hi oA
     rw[Aa,←c2]at lI
     have uJ:=CK h6
     have uI:cellsOf H (len*i.size) (.slice (some ⟨r,o,none⟩) len cap)=some l:=by simp only[cellsOf,hr];exact h6
     obtain⟨l',h8,h9⟩:=zY (size:=i.size) (k:=len) hR uI (.slice hm hc hex hi) rfl (fun a e=>by cases e;simp)
     have Kx:lo0≤r:=wK hR.lo an
     by_cases CN:len+k≤c'
     ·
      have bf:(len+k)*i.size≤c'*i.size:=waQ _ CN
      rw[waW]at bf
      have qn:cC.length=k*i.size:=by rw[←hn.1,hk]
      have jy:p.base+o+len*i.size+cC.length≤C.size:=by rw[qn];omega
      have cF:cC.all isCell=true:=Se hn kU
      have bG:=CO (P:=E.P) (o:=p.base+o+len*i.size) cC 0 w C c1 (by omega) (fun j _ h=>c3 (wz Kx) j (by omega)) cF
      simp only[waX]at bG
      refine⟨_,_,_,z7 CN z8 ?_,FI (q:=⟨p.ax,p.base+o,C.size,false,i.size⟩) hR hm an hr h7 (fun b _ aX=>uK _ aX) (by rw[xU];exact wy _)
       (by rw[xU];exact(hR.dom r p hm).2.1) ⟨C,_,e₀,fr,c1,nG _ (w0.1 c1).1,xV jy,fun j hj=>?_⟩ (.inl ⟨rfl,?_⟩) ⟨⟨_,e₀,fr,nG _ (w0.1 c1).1,xV jy,?_,?_,?_⟩,rfl,?_⟩ ⟨rfl,rfl⟩,?_⟩
      ·simp only[add_plain]
       exact bG
      ·rw[uL jy,wI (by omega)]
      ·simp only[wN,uJ,hk];omega
      ·intro _ j hj
       rw[xV jy]at hj
       exact c3 (wz Kx) j hj
      ·rw[xV jy];simp only[wN,uJ,hk];omega
      ·intro j x hx
       rw[uL jy]
       simp only
       by_cases hj:j<l.length
       ·rw[waf hj]at hx
        rw[wI (by omega)]
        obtain⟨_,Sh⟩:=xP h6
        rw[Sh,wab,wF (by omega),wae]at hx
        obtain⟨x',e1,e2⟩:=c5 _ _ hx
        exact⟨x',by rw[←e1];congr 1;omega,e2.mono (pe _ hR.pg)⟩
       ·have xX:=(wD.1 hx).1
        rw[waB (by omega)]at hx
        simp only[wN]at xX
        rw[wF (by rw[←hn.1];omega)]
        obtain⟨x',e1,e2⟩:=hn.get hx
        exact⟨x',by rw[←e1];congr 1;omega,e2.mono (pe _ hR.pg)⟩
      ·intro g' z' he
       simp only[wi,wk]at he
       exact he.2
      ·exact VRel.slice (o:=0) (jx _ _ _) CN (fun h=>by cases h) (fun _=>by simpa using lI)
     ·obtain⟨nc,rest,aZ,aY,bH,bQ,jZ⟩:=xR (base:=some ⟨p.ax,p.base+o,none⟩) h2 CN h8 uJ (h9 w.drew rfl E.P)
      have gP:∀ b,b<w.heap.size→(w.drew.alloc (.cells (l'++cC++rest).toArray e)).heap[b]? =w.heap[b]? :=fun b hb=>by
       show(w.heap.push _)[b]? =_
       rw[wbD,wI (by omega)]
      have nI:(w.drew.alloc (.cells (l'++cC++rest).toArray e)).heap[w.heap.size]? =some (.cells (l'++cC++rest).toArray e):=by
       show(w.heap.push _)[w.heap.size]? =_
       simp
      refine⟨_,_,_,aY,FI (q:=⟨w.heap.size,0,(l'++cC++rest).toArray.size,false,i.size⟩) hR hm an hr h7 (fun b hb _=>gP b hb) (by show w.heap.size≤(w.heap.push _).size;simp)
       (by show w.heap.size<(w.heap.push _).size;simp) ⟨C,C,e₀,fr,c1,by rw[gP _ (hR.dom r p hm).2.1];exact c1,rfl,fun _ _=>rfl⟩ (.inr (wy _))
       ⟨⟨_,e,(0,0),nI,rfl,fun _ j _ h=>by simp at h,by simpa using bQ,fun j x hx=>?_⟩,rfl,fun g' z' he=>?_⟩ ⟨rfl,rfl⟩,VRel.slice (o:=0) (jx _ _ _) aZ (fun h=>by cases h) (fun _=>by simpa using jZ)⟩
      ·obtain⟨x',e1,e2⟩:=bH j x hx
       exact⟨x',e1,e2.mono (pe _ hR.pg)⟩
      ·simp only[wi,wk]at he
       exact he.2
    ·simp at h3
  |empty a hm oA=>
   rename_i p
   refine⟨some a,0,0,rfl,?_⟩
   cases hb:Nat.ble (0+k) 0 with
   |true=>
    have:k=0:=by simpa using hb
    subst this
    rw[hb]at h
    simp only[wai,show Nat.beq 0 0=true from rfl,wi,wk]at h
    obtain⟨rfl,rfl⟩:=h
    have oZ:cC=[]:=by
     have:new=[]:=wby.1 (by rw[hk];simp)
     subst this
     exact hn.mG
    subst oZ
    exact⟨_,w,m,z7 (base:=some a) (w':=w) (wy _) z8 (by simp[storeCells]),.refl hR,.empty a hm oA⟩
   |false=>
    have rE:¬ 0+k≤0:=FF hb
    rw[hb]at h
    obtain⟨h2,h3⟩:=cD h
    simp only[waM]at h2
    split at h3
    ·rename_i cells dw hr
     have tr:=(hR.obj r p _ hm hr).2.1
     rw[oA]at tr
     simp at tr
    ·rename_i cells g z hr
     obtain⟨h4,h5⟩:=cn h3
     simp only[wA,wbp,wbi]at h4
     obtain⟨⟨⟨h4,an⟩,rfl⟩,_⟩:=h4
     simp only[we,wi,wk]at h5
     obtain⟨l,h6,H₁,h7,rfl,rfl⟩:=h5
     have hl0:l=[]:=wby.1 (by rw[CK h6];simp)
     subst hl0
     obtain⟨⟨C,e₀,fr,c1,c2,c3,c4,c5⟩,_,hz⟩:=hR.obj r p _ hm hr
     obtain⟨nc,rest,aZ,aY,bH,bQ,jZ⟩:=xR (s':= .slice (some a) 0 0) (base:=some a) (aT:=[]) (old':=[]) h2 rE (.nil m) (by simp) (by simp[Builtin.firstCells,loadCells,loadCellsFrom])
     have gP:∀ b,b<w.heap.size→(w.drew.alloc (.cells ([]++cC++rest).toArray e)).heap[b]? =w.heap[b]? :=fun b hb=>by
      show(w.heap.push _)[b]? =_
      rw[wbD,wI (by omega)]
     have nI:(w.drew.alloc (.cells ([]++cC++rest).toArray e)).heap[w.heap.size]? =some (.cells ([]++cC++rest).toArray e):=by
      show(w.heap.push _)[w.heap.size]? =_
      simp
     refine⟨_,_,_,aY,FI (q:=⟨w.heap.size,0,([]++cC++rest).toArray.size,false,i.size⟩) hR hm an hr h7 (fun b hb _=>gP b hb) (by show w.heap.size≤(w.heap.push _).size;simp)
      (by show w.heap.size<(w.heap.push _).size;simp) ⟨C,C,e₀,fr,c1,by rw[gP _ (hR.dom r p hm).2.1];exact c1,rfl,fun _ _=>rfl⟩ (.inr (wy _))
      ⟨⟨_,e,(0,0),nI,rfl,fun _ j _ h=>by simp at h,by simpa using bQ,fun j x hx=>?_⟩,rfl,fun g' z' he=>?_⟩ ⟨rfl,rfl⟩,VRel.slice (o:=0) (jx _ _ _) aZ (fun h=>by cases h) (fun _=>by simpa using jZ)⟩
     ·obtain⟨x',e1,e2⟩:=bH j x hx
      exact⟨x',e1,e2.mono (pe _ hR.pg)⟩
     ·simp only[wi,wk]at he
      exact he.2
    ·simp at h3
 ·simp at h
end
section
variable[Maps]{B lo0:Nat}{m:Match}{H:Heap}{w:World}{E:Env}
end
section
variable{B lo0:Nat}{m:Match}{w:World}{P:Program}
theorem VP{v:Value}{y n:Nat}{k:IntKind}{i:Int}(hv:v= .int k i)(h:to? i y=some n)(code:BoundsCode)(w:World)(P:Program):(Instr.sliceBound v y code).run P w= .ok n w∧n≤y:=by
 subst hv
 obtain⟨rfl,h2⟩:=to?_eq h
 have:(0:Int)≤(n:Int)∧(n:Int)≤(y:Int):=by omega
 exact⟨by simp only[Instr.sliceBound,asIntOf,wB,wC,wu,this,and_self,wah,waD],h2⟩
theorem Nb{y y' n:Nat}{i:Int}(h:to? i y=some n)(hy:y≤y'):to? i y'=some n:=by
 obtain⟨rfl,h2⟩:=to?_eq h
 show(bif Nat.ble n y' then some n else none)=some n
 rw[wP (wK h2 hy)];rfl
theorem Bb{len cap vF:Nat}{lo hi mx:Option Value}{b:Nat×Nat×Nat}(h:bounds len cap lo hi mx=some b)(hl:len≤cap)(hc:cap≤vF)(sl:Bool)(w:World)(P:Program):
  b.1≤b.2.1∧b.2.1≤b.2.2∧b.2.2≤cap∧∃ m',(Instr.sliceBounds sl len vF lo hi mx).run P w= .ok (b.1,b.2.1,m') w∧((mx.isSome=false∧b.2.2=cap∧m'=vF)∨(mx.isSome=true∧m'=b.2.2)):=by
 simp only[bounds,we,wi]at h
 obtain⟨mm,h1,hh,h2,ll,h3,rfl⟩:=h
 have key:∀ {k:IntKind} {i:Int} {y n:Nat},to? i y=some n→∀ (code:BoundsCode),(Instr.sliceBound (.int k i) y code).run P w= .ok n w:=fun h code=>(VP rfl h code w P).1
 have tZ:ll≤hh∧(lo=none∧ll=0∨∃ k i,lo=some (.int k i)∧to? i hh=some ll):=by
  cases lo with
  |none=>simp only[wi]at h3;subst h3;exact⟨wJ _,.inl ⟨rfl,rfl⟩⟩
  |some v=>cases v<;>simp only[reduceCtorEq]at h3;exact⟨(to?_eq h3).2,.inr ⟨_,_,rfl,h3⟩⟩
 clear h3
 cases mx with
 |none=>
  simp only[wi]at h1
  subst h1
  have Nc:hh≤cap∧(hi=none∧hh=len∨∃ k i,hi=some (.int k i)∧to? i vF=some hh):=by
   cases hi with
   |none=>simp only[wi]at h2;subst h2;exact⟨hl,.inl ⟨rfl,rfl⟩⟩
   |some v=>cases v<;>simp only[reduceCtorEq]at h2;exact⟨(to?_eq h2).2,.inr ⟨_,_,rfl,Nb h2 hc⟩⟩
  clear h2
  refine⟨tZ.1,Nc.1,wy _,vF,?_,.inl ⟨rfl,rfl,rfl⟩⟩
  rcases tZ.2 with⟨rfl,rfl⟩|⟨k,i,rfl,h4⟩<;>rcases Nc.2 with⟨rfl,rfl⟩|⟨k',i',rfl,h5⟩<;>simp[Instr.sliceBounds, *]
 |some mv=>
  cases mv<;>simp only[reduceCtorEq]at h1
  rename_i mk mi
  have uh:=Nb h1 hc
  have ve:=(to?_eq h1).2
  cases hi with
  |none=>simp at h2
  |some v=>
   cases v<;>simp only[reduceCtorEq]at h2
   rename_i hk hi
   refine⟨tZ.1,(to?_eq h2).2,ve,mm,?_,.inr ⟨rfl,rfl⟩⟩
   rcases tZ.2 with⟨rfl,rfl⟩|⟨k,i,rfl,h4⟩<;>simp[Instr.sliceBounds, *]
end
section
variable[Maps]{B lo0:Nat}{m:Match}{H:Heap}{w:World}{E:Env}
theorem UE(hE:EnvOk E)(hR:Rel B lo0 m H w){t:TypeId}{x x' v:Value}{lo hi mx:Option Value}(h:sliceV E H t x lo hi mx=some v)(hx:VRel m x x'):
  ∃v',(Instr.sliceAt t x' lo hi mx).run E.P w= .ok v' w∧VRel m v v':=by
 simp only[sliceV,we]at h
 obtain⟨i,h1,h2⟩:=h
 split at h2
 ·rename_i s hd
  cases hx
  split at h2
  ·simp at h2
  ·simp only[we,wi]at h2
   obtain⟨b,h3,rfl⟩:=h2
   obtain⟨_,_,_,m',h4,_⟩:=Bb h3 (wy _) (wy _) false w E.P
   exact⟨_,by simp[Instr.sliceAt,Instr.slice,hE.desc h1 hd,h4],.string _⟩
 ·rename_i e r o len cap hd
  obtain⟨rW,h2⟩:=cD h2
  simp only[waM,wbi]at rW
  simp only[we]at h2
  obtain⟨b,h3,size,h4,h5⟩:=h2
  have bf:=hE.size h4
  ·cases hx with
   |slice hm hc hex Ho=>
    rename_i c' p
    obtain⟨h6,h7,h8,m',h9,aZ⟩:=Bb h3 rW hc true w E.P
    have bG:(Instr.sliceAt t (.slice (some ⟨p.ax,p.base+o,none⟩) len c') lo hi mx).run E.P w=
      .ok (.slice (if m'=b.1 then some ⟨p.ax,p.base+o,none⟩else some ⟨p.ax,p.base+o+b.1*size,none⟩) (b.2.1-b.1) (m'-b.1)) w:=by
     simp only[Instr.sliceAt,Instr.slice,wB,hE.desc h1 hd,wu,h9,bf,wC,waE,add_plain]
    split at h5
    ·rename_i cells dw hr
     simp only[wi]at h5
     subst h5
     have xT:c'=cap:=hex (by rw[(hR.obj r p _ hm hr).2.1];rfl)
     subst xT
     have lf:m'=b.2.2:=by rcases aZ with⟨_,h,h'⟩|⟨_,h⟩;rw[h,h'];exact h
     subst lf
     refine⟨_,bG,?_⟩
     cases hb:Nat.beq b.2.2 b.1 with
     |true=>
      rw[wF (by simpa using hb)]
      exact .slice hm (wy _) (fun _=>rfl) (fun h=>by rw[(hR.obj r p _ hm hr).2.1]at h;simp at h)
     |false=>
      rw[wI (by intro e;rw[e,wbc]at hb;cases hb),wbH]
      exact .slice hm (wy _) (fun _=>rfl) (fun h=>by rw[(hR.obj r p _ hm hr).2.1]at h;simp at h)
    ·rename_i cells g z dw hr
     obtain⟨aY,bH⟩:=cn h5
     simp only[wbp]at aY
     subst aY
     simp only[wi]at bH
     subst bH
     obtain⟨_,tr,hz⟩:=hR.obj r p _ hm hr
     have oA:p.exact=false:=by rw[tr];rfl
     have Aa:p.z=z:=hz g z rfl
     have lI:=Ho oA
     refine⟨_,bG,?_⟩
     rcases aZ with⟨uh,D2,rfl⟩|⟨uh,rfl⟩
     ·rw[uh]
      simp only[wbj,wS]
      by_cases hl:m'=b.1
      ·rw[wF hl]
       have e1:b.2.1-b.1=0:=by omega
       have e2:b.2.2-b.1=0:=by omega
       have e3:m'-b.1=0:=by omega
       rw[e1,e2,e3]
       exact .empty _ hm oA
      ·rw[wI hl,wbH]
       refine .slice hm (by omega) (fun h=>by rw[oA]at h;cases h) (fun _=>?_)
       rw[Aa]at lI⊢
       have e1:m'*z=b.1*z+(m'-b.1)*z:=by rw[←waW];congr 1;omega
       omega
     ·rw[uh]
      simp only[wa9]
      have ck:(b.2.2-b.1)*z+b.1*z≤c'*z:=by rw[←waW];exact waQ _ (by omega)
      cases hb:Nat.beq b.2.2 b.1 with
      |true=>
       rw[wF (by simpa using hb)]
       refine .slice hm (wy _) (fun _=>rfl) (fun _=>?_)
       rw[Aa]at lI⊢
       simp only[wai]
       omega
      |false=>
       rw[wI (by intro e;rw[e,wbc]at hb;cases hb),wbH]
       refine .slice hm (wy _) (fun _=>rfl) (fun _=>?_)
       rw[Aa]at lI⊢
       simp only[wS]
       omega
    ·simp at h5
   |empty a hm oA=>
    rename_i p
    obtain⟨h6,h7,h8,m',h9,aZ⟩:=Bb h3 rW (wy _) true w E.P
    have e1:b.1=0:=by omega
    have e2:b.2.1=0:=by omega
    have e3:b.2.2=0:=by omega
    have e4:m'=0:=by rcases aZ with⟨_,_,h⟩|⟨_,h⟩<;>omega
    have bG:(Instr.sliceAt t (.slice (some a) 0 0) lo hi mx).run E.P w= .ok (.slice (some a) 0 0) w:=by
     simp only[Instr.sliceAt,Instr.slice,wB,hE.desc h1 hd,wu,h9,bf,wC,e1,e2,e4,wah,wbS]
    split at h5
    ·rename_i cells dw hr
     rw[(hR.obj r p _ hm hr).2.1]at oA
     simp at oA
    ·obtain⟨_,bH⟩:=cn h5
     simp only[wi]at bH
     subst bH
     refine⟨_,bG,?_⟩
     rw[e1,e2,e3]
     exact .empty a hm oA
    ·simp at h5
 ·rename_i e len cap hd
  cases hx
  obtain⟨rW,h2⟩:=cD h2
  simp only[waM,wbi]at rW
  simp only[we,wi]at h2
  obtain⟨b,h3,size,h4,rfl⟩:=h2
  obtain⟨_,_,_,m',h9,aZ⟩:=Bb h3 rW (wy _) true w E.P
  have lf:m'=b.2.2:=by rcases aZ with⟨_,h,h'⟩|⟨_,h⟩;rw[h,h'];exact h
  subst lf
  refine⟨_,?_,.qm _ _⟩
  simp only[Instr.sliceAt,Instr.slice,wB,hE.desc h1 hd,wu,h9,hE.size h4,wC,wcH,ite_self]
 ·rename_i n e r o hd
  simp only[we]at h2
  obtain⟨b,h3,size,h4,h5⟩:=h2
  have bf:=hE.size h4
  cases hx with
  |ptr hm=>
   rename_i p
   obtain⟨h6,h7,h8,m',h9,aZ⟩:=Bb h3 (wy _) (wy _) false w E.P
   split at h5
   ·rename_i cells dw hr
    simp only[wi]at h5
    subst h5
    have lf:m'=b.2.2:=by rcases aZ with⟨_,h,h'⟩|⟨_,h⟩;rw[h,h'];exact h
    subst lf
    have bG:(Instr.sliceAt t (.pointer (some ⟨p.ax,p.base+o,none⟩)) lo hi mx).run E.P w=
      .ok (.slice (some (if b.2.2=b.1 then⟨p.ax,p.base+o,none⟩else⟨p.ax,p.base+o+b.1*size,none⟩)) (b.2.1-b.1) (b.2.2-b.1)) w:=by
     simp only[Instr.sliceAt,Instr.sureAddr,wB,hE.desc h1 hd,wu,h9,bf,wC,add_plain]
    refine⟨_,bG,?_⟩
    cases hb:Nat.beq b.2.2 b.1 with
    |true=>
     rw[wF (by simpa using hb)]
     exact .slice hm (wy _) (fun _=>rfl) (fun h=>by rw[(hR.obj r p _ hm hr).2.1]at h;simp at h)
    |false=>
     rw[wI (by intro e;rw[e,wbc]at hb;cases hb),wbH]
     exact .slice hm (wy _) (fun _=>rfl) (fun h=>by rw[(hR.obj r p _ hm hr).2.1]at h;simp at h)
   ·simp at h5
 ·simp at h2
theorem UD(hE:EnvOk E)(hR:Rel B lo0 m H w){t:TypeId}{l c v:Value}{H':Heap}(h:makeSliceV E H t l c=some (v,H')):
  ∃v' w' m',(Instr.makeSlice t l c).run E.P w= .ok v' w'∧Good B lo0 m H w m' H' w'∧VRel m' v v':=by
 simp only[makeSliceV,we]at h
 obtain⟨i,h1,h2⟩:=h
 split at h2
 ·rename_i e kl l kc c hd
  split at h2
  ·rename_i l c
   simp only[we]at h2
   obtain⟨j,h3,z,hz,h4⟩:=h2
   obtain⟨h5,h6⟩:=cn h4
   simp only[wA,wbi,wbt,wbp]at h5
   obtain⟨⟨⟨⟨h5,h7⟩,h8⟩,h9⟩,aZ⟩:=h5
   simp only[wi,wk]at h6
   obtain⟨rfl,rfl⟩:=h6
   obtain⟨info,hi,hb⟩:=hE.bytes h3
   obtain⟨hp,kS⟩:=hE.zero h3 hz
   have hs:j.size≠0:=by intro e;rw[e]at h9;simp at h9
   have Hn:z.cells.size=j.size:=by rw[←waF,ju,aZ]
   have wl:∀ n:Nat,n≤1000000000→IntKind.i64.wrap (Int.ofNat n)=(n:Int):=fun n hn=>by
    rw[Int.ofNat_eq_natCast]
    exact yC .i64 _ (by simp only[IntKind.min,IntKind.signed,IntKind.bits];simp only[wah];omega) (by simp only[IntKind.max,IntKind.signed,IntKind.bits];simp only[wah];omega)
   have e1:=wl l (by omega)
   have e2:=wl c h7
   have Nd:∀ n:Nat,n≤c→¬ ((n:Int)<0)∧¬ ((info.bytes:Int)*(n:Int)>2^48):=fun n hn=>by
    refine⟨by omega,?_⟩
    have:n*info.bytes≤c*info.bytes:=waQ _ hn
    rw[hb]at*
    have e:((j.bytes:Int)*(n:Int))=((n*j.bytes:Nat):Int):=by rw[Int.natCast_mul];exact Int.mul_comm _ _
    rw[e]
    omega
   have uI:LRel m (df (cg z) c) (((Array.range (c*j.size)).map (z.cells[· %z.cells.size]!))).toList:=by
    rw[←Hn,zZ,ju]
    exact(yB hp).repeat c
   refine⟨.slice (some ⟨w.heap.size,0,none⟩) l c,_,_,?_,Good.newRow hR (w':=w.alloc (.cells ((Array.range (c*j.size)).map (z.cells[· %z.cells.size]!)) e)) e rfl ⟨rfl,rfl⟩ uI,
    VRel.slice (o:=0) (jx _ _ _) (wy _) (fun _=>rfl) (fun h=>by cases h)⟩
   have t1:(decide ((c:Int)<0)||decide ((info.bytes:Int)*(c:Int)>2^48)||decide ((l:Int)<0)||decide ((l:Int)>(c:Int)))=false:=by
    obtain⟨a1,a2⟩:=Nd c (wy _)
    simp only[wbM,wal]
    exact⟨⟨⟨a1,a2⟩,by omega⟩,by omega⟩
   simp only[Instr.makeSlice,wB,hE.desc h1 hd,wu,asInt,asIntOf,wC,hi,e1,e2,t1,wG,waa,run_askRoom,waD,hE.oH h3]
   by_cases h0:c*j.size=0
   ·have Bc:c=0:=by rcases Nat.mul_eq_zero.1 h0 with h|h;exact h;exact absurd h hs
    subst Bc
    have DZ:∀ f:Nat→Value,(Array.range 0).map f= #[]:=fun f=>by simp
    simp only[wb2,wah,wC,wu,DZ,newRow,wB,wbN]
    rfl
   ·simp only[h0,waa,wB,kS,wu,wC,newRow,wbN]
    rfl
  ·simp at h2
 ·simp at h2
theorem VQ(hE:EnvOk E){t:TypeId}{k k':Value}(h:plainKey E t k=true)(hk:VRel m k k'):k'=k∧(∀w b,(Instr.checkKey b 10000 t k).run E.P w= .ok () w)∧
  ((∃kk n kd,E.P.underlying t=some (.int kk)∧k= .int kd n)∨(∃s,E.P.underlying t=some .string∧k= .string s)∨(∃b,E.P.underlying t=some .bool∧k= .bool b)):=by
 unfold plainKey at h
 split at h
 ·rename_i i hi
  obtain⟨info,_,hu,_⟩:=hE.inv hi
  split at h
  ·rename_i kk kd n hd
   rw[hd]at hu
   cases hk
   exact⟨rfl,fun w b=>(fun d=>by simp[Instr.checkKey,waN hu]:∀ d,(Instr.checkKey b (d+1) t _).run E.P w= .ok () w) 9999,.inl ⟨_,_,_,hu,rfl⟩⟩
  ·rename_i s hd
   rw[hd]at hu
   cases hk
   exact⟨rfl,fun w b=>(fun d=>by simp[Instr.checkKey,waN hu]:∀ d,(Instr.checkKey b (d+1) t _).run E.P w= .ok () w) 9999,.inr (.inl ⟨_,hu,rfl⟩)⟩
  ·rename_i s hd
   rw[hd]at hu
   cases hk
   exact⟨rfl,fun w b=>(fun d=>by simp[Instr.checkKey,waN hu]:∀ d,(Instr.checkKey b (d+1) t _).run E.P w= .ok () w) 9999,.inr (.inr ⟨_,hu,rfl⟩)⟩
  ·simp at h
 ·simp at h
end
section
variable[Maps]{B lo0:Nat}{m:Match}{H:Heap}{w:World}{E:Env}
def yD(m:Match)(es:List (Value×Value))(bb:List MapEntry):Prop:=bb.length=es.length∧∀ (i:Nat) (k v:Value),es[i]? =some (k,v)→∃ e':MapEntry,bb[i]? =some e'∧VRel m k e'.key∧VRel m v e'.val
end
section
variable{B lo0:Nat}{m:Match}{w:World}{P:Program}
theorem Nf{kind:TypeDesc}{k:Value}(hk:(∃kk kd n,kind= .int kk∧k= .int kd n)∨(∃s,kind= .string∧k= .string s)∨(∃b,kind= .bool∧k= .bool b)):
  ∀{es:List (Value×Value)} {bb:List MapEntry} {i:Nat} {f:Option (Nat×Value)},findV k es i=some f→yD m es bb→
   ∃f',Instr.findNow kind k bb i=some f'∧(match f with
    |none=>f'=none
    |some (j,v)=>∃ v',f'=some (j,v')∧VRel m v v'∧i≤j∧∃ key,es[j-i]? =some (key,v)∧keyEq k key=some true)
 |[],bb,i,f,h,he=>by
  have:bb=[]:=wby.1 (by simpa using he.1)
  subst this
  simp only[findV,wi]at h
  subst h
  exact⟨none,rfl,rfl⟩
 |(key,v)::es,bb,i,f,h,he=>by
  obtain⟨e',h1,h2,h3⟩:=he.2 0 key v rfl
  cases bb with
  |nil=>simp at h1
  |cons oE VR=>
   simp only[wQ,wi]at h1
   subst h1
   simp only[findV,we]at h
   obtain⟨b,h4,h5⟩:=h
   have hs:Instr.sameNow kind k oE.key=some b:=by
    rcases hk with⟨kk,kd,n,rfl,rfl⟩|⟨s,rfl,rfl⟩|⟨b',rfl,rfl⟩
    ·cases key<;>simp only[keyEq,reduceCtorEq]at h4
     obtain⟨h6,h7⟩:=cn h4
     have:=vu h6
     subst this
     cases mQ:oE.key<;>rw[mQ]at h2<;>cases h2
     simp only[wi,gF]at h7
     simp[Instr.sameNow,←h7]
    ·cases key<;>simp only[keyEq,reduceCtorEq,wi]at h4
     cases mQ:oE.key<;>rw[mQ]at h2<;>cases h2
     rw[←h4]
     simp[Instr.sameNow,mJ,beq_toListBytes]
    ·cases key<;>simp only[keyEq,reduceCtorEq,wi]at h4
     cases mQ:oE.key<;>rw[mQ]at h2<;>cases h2
     rw[←h4]
     simp[Instr.sameNow]
   cases b with
   |true=>
    simp only[wi]at h5
    subst h5
    exact⟨some (i,oE.val),by simp[Instr.findNow,hs],oE.val,rfl,h3,wy _,key,by simp,h4⟩
   |false=>
    have ue:yD m es VR:=⟨by simpa using he.1,fun j k' v' hj=>by simpa using he.2 (j+1) k' v' (by simpa using hj)⟩
    obtain⟨f',h6,h7⟩:=Nf hk h5 ue
    refine⟨f',by simp[Instr.findNow,hs,h6],?_⟩
    cases f with
    |none=>exact h7
    |some jv=>
     obtain⟨j,v₁⟩:=jv
     obtain⟨v',h8,h9,aZ,D3,aY,bH⟩:=h7
     refine⟨v',h8,h9,by omega,D3,?_,bH⟩
     rw[show j-i=(j-(i+1))+1 by omega]
     simpa using aY
theorem Hp{kt:TypeId}{k:Value}{P:Program}(hk:∃ kind,P.underlying kt=some kind∧((∃kk kd n,kind= .int kk∧k= .int kd n)∨(∃s,kind= .string∧k= .string s)∨(∃b,kind= .bool∧k= .bool b)))
  {es:List (Value×Value)} {bb:List MapEntry} {f:Option (Nat×Value)} (h:findV k es 0=some f) (he:yD m es bb):
  ∃f',(∀w,(Instr.findKey kt k bb).run P w= .ok f' w)∧(match f with
    |none=>f'=none
    |some (j,v)=>∃ v',f'=some (j,v')∧VRel m v v'∧∃ key,es[j]? =some (key,v)∧keyEq k key=some true):=by
 obtain⟨kind,hu,hk⟩:=hk
 obtain⟨f',h1,h2⟩:=Nf hk h he
 refine⟨f',fun w=>by simp[Instr.findKey,waN hu,h1],?_⟩
 cases f with
 |none=>exact h2
 |some jv=>obtain⟨j,v⟩:=jv;obtain⟨v',h3,h4,_,key,h5,h6⟩:=h2;exact⟨v',h3,h4,key,by simpa using h5,h6⟩
end
section
variable[Maps]{B lo0:Nat}{m:Match}{H:Heap}{w:World}{E:Env}
theorem Hq(hE:EnvOk E){t:TypeId}{k k':Value}(h:plainKey E t k=true)(hk:VRel m k k'):k'=k∧(∀w b,(Instr.checkKey b 10000 t k).run E.P w= .ok () w)∧
  ∃kind,E.P.underlying t=some kind∧((∃kk kd n,kind= .int kk∧k= .int kd n)∨(∃s,kind= .string∧k= .string s)∨(∃b,kind= .bool∧k= .bool b)):=by
 obtain⟨h1,h2,h3⟩:=VQ hE h hk
 refine⟨h1,h2,?_⟩
 rcases h3 with⟨kk,n,kd,h4,h5⟩|⟨s,h4,h5⟩|⟨b,h4,h5⟩
 ·exact⟨_,h4,.inl ⟨kk,kd,n,rfl,h5⟩⟩
 ·exact⟨_,h4,.inr (.inl ⟨s,rfl,h5⟩)⟩
 ·exact⟨_,h4,.inr (.inr ⟨b,rfl,h5⟩)⟩
end
section
variable{B lo0:Nat}{m:Match}{w:World}{P:Program}
theorem Ng{es:List (Value×Value)}{bb:Array MapEntry}(h1:bb.size=es.length)(h2:∀ i k v,es[i]? =some (k,v)→∃ e':MapEntry,bb[i]? =some e'∧VRel m k e'.key∧VRel m v e'.val∧e'.born=i):yD m es bb.toList:=
 ⟨by simpa using h1,fun i k v h=>let⟨e',a,b,c,_⟩:=h2 i k v h;⟨e',by simpa using a,b,c⟩⟩
theorem Nh{es:List ((Value×Value)×Nat)}{bb:Array MapEntry}(h1:bb.size=es.length)(h2:∀ (i:Nat) (k v:Value) (b:Nat),es[i]? =some ((k,v),b)→∃ e':MapEntry,bb[i]? =some e'∧VRel m k e'.key∧VRel m v e'.val∧e'.born=b):yD m (es.map Prod.fst) bb.toList:=
 ⟨by simpa using h1,fun i k v h=>by
  rw[war,wa6]at h
  obtain⟨⟨⟨k',v'⟩,b⟩,h3,h4⟩:=h
  cases h4
  obtain⟨e',a,b,c,_⟩:=h2 i _ _ _ h3
  exact⟨e',by simpa using a,b,c⟩⟩
theorem Ni:∀ (l:List (Value×Value)) (k i:Nat),(tJ l k)[i]? =(l[i]?).map fun e=>(e,k+i)
 |[],k,i=>by simp[tJ]
 |e::l,k,0=>by simp[tJ]
 |e::l,k,i+1=>by
  simp only[tJ,wbo,Ni l (k+1) i,show k+1+i=k+(i+1) by omega]
theorem Nj:∀ (l:List (Value×Value)) (k:Nat),(tJ l k).length=l.length
 |[],k=>rfl
 |e::l,k=>by simp[tJ,Nj l (k+1)]
theorem Nk(bb:Array MapEntry)(j:Nat):(bb.eraseIdxIfInBounds j).toList=bb.toList.eraseIdx j:=by
 unfold Array.eraseIdxIfInBounds
 split
 ·exact Array.toList_eraseIdx ..
 ·rename_i h
  rw[List.eraseIdx_of_length_le (by rw[waF];omega)]
theorem ib{r:Nat}{o:Obj}(h:w.heap[r]? =some o)(hn:∀ c e f,o≠ .cells c e f)(P:Program):(getObj r).run P w= .ok o w:=by
 cases o<;>first|(exact absurd rfl (hn _ _ _))|simp[getObj,Sem.run,h]
theorem qo{r:Nat}{o o':Obj}(h:w.heap[r]? =some o)(hn:∀ c e f,o≠ .cells c e f)(P:Program):(setObj r o').run P w= .ok () (dI w r o'):=by
 cases o<;>first|(exact absurd rfl (hn _ _ _))|simp[setObj,Sem.run,h,dI]
end
section
variable[Maps]{B lo0:Nat}{m:Match}{H:Heap}{w:World}{E:Env}
theorem UJ(hE:EnvOk E)(hR:Rel B lo0 m H w){t:TypeId}{x x' k k' v:Value}{ok:Bool}(h:lookupV E H t x k ok=some v)(hx:VRel m x x')(hk:VRel m k k'):
  ∃v',(Instr.lookup t x' k' ok).run E.P w= .ok v' w∧VRel m v v':=by
 simp only[lookupV,we]at h
 obtain⟨i,h1,h2⟩:=h
 split at h2
 ·rename_i kt et hd
  obtain⟨h3,h4⟩:=cD h2
  simp only[waM]at h3
  simp only[we]at h4
  obtain⟨es,h5,f,h6,h7⟩:=h4
  obtain⟨rfl,qI,pw⟩:=Hq hE h3 hk
  have sf:∃ (bb:Array MapEntry) (Hs:Nat),yD m es bb.toList∧((x'= .map none∧bb= #[])∨∃ r,x'= .map (some r)∧w.heap[r]? =some (.map bb Hs)):=by
   split at h5
   ·cases hx
    simp only[wi]at h5;subst h5
    exact⟨#[],0,⟨rfl,fun i k v h=>by simp at h⟩,.inl ⟨rfl,rfl⟩⟩
   ·rename_i r
    split at h5
    ·rename_i Ht hr
     simp only[wi]at h5;subst h5
     cases hx with
     |map hm=>
      obtain⟨bb,a,b,c⟩:=hR.obj r _ _ hm hr
      exact⟨bb,_,Ng b c,.inr ⟨_,rfl,a⟩⟩
    ·rename_i Ht Hs hr
     simp only[wi]at h5;subst h5
     cases hx with
     |map hm=>
      obtain⟨bb,a,b,c⟩:=hR.obj r _ _ hm hr
      exact⟨bb,_,Nh b c,.inr ⟨_,rfl,a⟩⟩
    ·simp at h5
   ·simp at h5
  obtain⟨bb,Hs,he,cu⟩:=sf
  obtain⟨f',hf,dQ⟩:=Hp (P:=E.P) pw h6 he
  have VS:∀ j v',f'=some (j,v')→(Instr.lookup t x' k' ok).run E.P w= .ok (if ok then .tuple #[v',.bool true]else v') w:=by
   intro j v' hv
   subst hv
   rcases cu with⟨rfl,rfl⟩|⟨r,rfl,hr⟩
   ·simp only[Instr.lookup,wB,hE.desc h1 hd,wu,wC,qI,hf]
   ·simp only[Instr.lookup,wB,hE.desc h1 hd,wu,wC,ib hr (fun c e f h=>by cases h),qI,hf]
  have VT:∀ z,f'=none→(zeroValue et).run E.P w= .ok z w→(Instr.lookup t x' k' ok).run E.P w= .ok (if ok then .tuple #[z,.bool false]else z) w:=by
   intro z hv hz
   subst hv
   rcases cu with⟨rfl,rfl⟩|⟨r,rfl,hr⟩
   ·simp only[Instr.lookup,wB,hE.desc h1 hd,wu,wC,qI,hf,hz]
   ·simp only[Instr.lookup,wB,hE.desc h1 hd,wu,wC,ib hr (fun c e f h=>by cases h),qI,hf,hz]
  cases f with
  |some jv=>
   obtain⟨j,v₀⟩:=jv
   obtain⟨v',rfl,hv,_⟩:=dQ
   simp only[wi]at h7
   subst h7
   refine⟨_,VS j v' rfl,?_⟩
   cases ok
   ·exact hv
   ·exact VRel.uP (.cons hv (.one (.bool _)))
  |none=>
   subst dQ
   simp only[we,wi]at h7
   obtain⟨j,hj,z,hz,rfl⟩:=h7
   obtain⟨hp,kS⟩:=hE.zero hj hz
   refine⟨_,VT z rfl (kS w),?_⟩
   cases ok
   ·exact plainV_rel hp
   ·exact VRel.uP (.cons (plainV_rel hp) (.one (.bool _)))
 ·simp at h2
end
section
variable{B lo0:Nat}{m:Match}{w:World}{P:Program}
theorem Nl(v:Value):∀ (l:List (Value×Value)) (i:Nat),(setVal v l i).length=l.length
 |[],_=>rfl
 |_::_,0=>rfl
 |_::l,i+1=>by simp[setVal,Nl v l i]
theorem Nm(v:Value):∀ (l:List (Value×Value)) (i j:Nat),(setVal v l i)[j]? =if j=i then(l[j]?).map fun e=>(e.1,v)else l[j]?
 |[],i,j=>by simp[setVal]
 |e::l,0,j=>by cases j<;>simp[setVal]
 |e::l,i+1,j=>by cases j<;>simp[setVal,Nm v l i]
end
section
variable[Maps]{B lo0:Nat}{m:Match}{H:Heap}{w:World}{E:Env}
theorem G3{r:Nat}{es:List (Value×Value)}{H':Heap}(h:H.pv r es=some H'):H.lo≤r∧H'.next=H.next∧H'.lo=H.lo∧H'.grps=H.grps∧
  ∀j x,H'.objs.get j=some x→(j=r∧x= .map es)∨(j≠r∧H.objs.get j=some x):=by
 unfold Heap.pv at h
 obtain⟨h1,h2⟩:=cD h
 simp only[waM,wbi]at h1
 simp only[Tr.force_eq,wi]at h2
 subst h2
 exact⟨h1,rfl,rfl,rfl,fun j x hx=>Tr.dm hx⟩
theorem Good.exchange(hR:Rel B lo0 m H w){r:Nat}{p:dO}{o o':AObj}{O':Obj}{H':Heap}(hm:m r=some p)(hr:H.lo≤r)(ho:H.objs.get r=some o)(eA:∀ c g t,o≠ .row c g t)
  (uc:∀ c g t,o'≠ .row c g t) (hn:H'.next=H.next) (hl:H'.lo=H.lo) (hg:H'.grps=H.grps)
  (iE:∀ j x,H'.objs.get j=some x→(j=r∧x=o')∨(j≠r∧H.objs.get j=some x)) (dg:iP true m p (dI w p.ax O') o'):Good B lo0 m H w m H' (dI w p.ax O'):=by
 refine Good.ez hR hm hr ho hn hl iE (fun g l h=> .inl (by rw[hg]at h;exact h)) (fun j q x hj hq hx hb=>?_) (fun c g t h=>absurd h (uc c g t)) (fun _=>dg) (fun b hb=>uK _ hb) (xU _) ⟨rfl,rfl⟩
 rcases iE j x hx with⟨h,_⟩|⟨_,h⟩
 ·exact hj h
 ·have:=hR.sep r j p q o x (wbl hj) (wK hR.lo hr) hm hq ho h hb.symm
  cases o<;>first|(exact absurd rfl (eA _ _ _))|simp[Mates]at this
end
section
variable{B lo0:Nat}{m:Match}{w:World}{P:Program}
theorem Dw{a b:ByteArray}(h:mJ a b=true):a=b:=by
 have h2:a.toList=b.toList:=by simpa[mJ]using h
 rw[ByteArray.toList_eq,ByteArray.toList_eq]at h2
 obtain⟨⟨x⟩⟩:=a
 obtain⟨⟨y⟩⟩:=b
 simp only at h2
 subst h2
 rfl
theorem G8{a b:Value}(h:same1 a b=true):a=b:=by
 unfold same1 at h
 split at h<;>simp_all[gF]
 ·obtain⟨h1,h2⟩:=h
  exact vu h1
 ·exact Dw h
theorem Nn:∀ {a b:List Value},sameL a b=true→a=b
 |[],[],_=>rfl
 |x::l,y::r,h=>by
  simp only[sameL,wA]at h
  rw[G8 h.1,Nn h.2]
 |[],_::_,h=>by simp[sameL]at h
 |_::_,[],h=>by simp[sameL]at h
theorem TZ{a b:Value}(h:sameV a b=true):a=b:=by
 unfold sameV at h
 split at h
 ·rw[wbW.1 (Nn h)]
 ·exact G8 h
theorem VU{k key:Value}{m:Match}{D3:Value}(h:keyEq k key=some true)(hr:VRel m key D3):Instr.sameBits 10000 D3 k=true:=by
 cases k<;>cases key<;>simp only[keyEq,reduceCtorEq,wi]at h
 ·cases hr
  simp only[wbO]at h
  simp[Instr.sameBits,h]
 ·cases hr
  obtain⟨h1,h2⟩:=cn h
  simp only[wi,gF,wbO]at h2
  simp[Instr.sameBits,vu h1,h2]
 ·cases hr
  have:=Dw h
  subst this
  simp[Instr.sameBits,beq_toListBytes]
end
section
variable[Maps]{B lo0:Nat}{m:Match}{H:Heap}{w:World}{E:Env}
theorem UK(hE:EnvOk E)(hR:Rel B lo0 m H w){t:TypeId}{x x' k k' v v':Value}{H':Heap}(h:mapUpdateV E H t x k v=some H')(hx:VRel m x x')(hk:VRel m k k')(hv:VRel m v v'):
  ∃w',(Instr.mapUpdate t x' k' v').run E.P w= .ok () w'∧Good B lo0 m H w m H' w':=by
 simp only[mapUpdateV,we]at h
 obtain⟨i,h1,h2⟩:=h
 split at h2
 ·rename_i kt et r hd
  obtain⟨h3,h4⟩:=cD h2
  simp only[waM]at h3
  obtain⟨rfl,qI,pw⟩:=Hq hE h3 hk
  cases hx with
  |map hm=>
   rename_i p
   split at h4
   ·rename_i es hr
    simp only[we]at h4
    obtain⟨f,h5,h6⟩:=h4
    obtain⟨bb,a,b,c⟩:=hR.obj r p _ hm hr
    obtain⟨f',hf,dQ⟩:=Hp (P:=E.P) pw h5 (Ng b c)
    have hlt:=(hR.dom r p hm).2.1
    cases f with
    |some jv=>
     obtain⟨j,v₀⟩:=jv
     obtain⟨v₁,rfl,hv₁,key,h7,h8⟩:=dQ
     simp only at h6
     obtain⟨h9,aZ,aY,bH,bQ⟩:=G3 h6
     obtain⟨e',e1,e2,e3,e4⟩:=c j key v₀ h7
     have Az:=VU h8 e2
     refine⟨dI w p.ax (.map (bb.modify j fun e=>{e with key:=k',val:=v'}) bb.size),?_,Good.exchange hR hm h9 hr (fun c g t h=>by cases h) (fun c g t h=>by cases h) aZ aY bH bQ
      ⟨bb.modify j fun e=>{e with key:=k',val:=v'},by rw[nG _ hlt];simp,by simp[Nl,b],fun i' k₁ v₁ hi=>?_⟩⟩
     ·simp only[Instr.mapUpdate,wB,hE.desc h1 hd,wu,ib a (fun c e f h=>by cases h),qI,hf,e1,waE,wbr,Instr.keyThatStays,Az,wah,wC,qo a (fun c e f h=>by cases h)]
     ·rw[Nm]at hi
      by_cases kb:i'=j
      ·subst kb
       rw[wF rfl,h7]at hi
       simp only[waE,wi,wk]at hi
       obtain⟨rfl,rfl⟩:=hi
       refine⟨{e' with key:=k',val:=v'},by simp[wcI,e1],?_,hv,e4⟩
       have Np:k'=e'.key:=by
        cases k'<;>cases key<;>simp only[keyEq,reduceCtorEq,wi]at h8
        ·cases mQ:e'.key<;>rw[mQ]at e2<;>cases e2
         simp only[wbO]at h8;rw[h8]
        ·cases mQ:e'.key<;>rw[mQ]at e2<;>cases e2
         obtain⟨q1,q2⟩:=cn h8
         simp only[wi,gF,wbO]at q2
         rw[vu q1,q2]
        ·cases mQ:e'.key<;>rw[mQ]at e2<;>cases e2
         rw[Dw h8]
       simp only
       rw[Np]
       exact e2
      ·rw[wI kb]at hi
       obtain⟨oE,g1,g2,g3,g4⟩:=c i' k₁ v₁ hi
       exact⟨oE,by rw[wcI,wI (wbl kb)];exact g1,g2,g3,g4⟩
    |none=>
     subst dQ
     simp only at h6
     obtain⟨h9,aZ,aY,bH,bQ⟩:=G3 h6
     refine⟨dI w p.ax (.map (bb.push {key:=k',val:=v',born:=bb.size}) (bb.size+1)),?_,Good.exchange hR hm h9 hr (fun c g t h=>by cases h) (fun c g t h=>by cases h) aZ aY bH bQ
      ⟨bb.push {key:=k',val:=v',born:=bb.size},by rw[nG _ hlt];simp,by simp[b],fun i' k₁ v₁ hi=>?_⟩⟩
     ·simp only[Instr.mapUpdate,wB,hE.desc h1 hd,wu,ib a (fun c e f h=>by cases h),qI,hf,qo a (fun c e f h=>by cases h)]
     ·by_cases nJ:i'<es.length
      ·rw[waf nJ]at hi
       obtain⟨oE,g1,g2,g3,g4⟩:=c i' k₁ v₁ hi
       exact⟨oE,by rw[wbD,wI (by omega)];exact g1,g2,g3,g4⟩
      ·have nW:=(wD.1 hi).1
       simp only[wN,wY,waA]at nW
       have:i'=es.length:=by omega
       subst this
       rw[waB (wy _)]at hi
       simp only[wbS,wQ,wi,wk]at hi
       obtain⟨rfl,rfl⟩:=hi
       exact⟨_,by rw[wbD,wF b.symm],hk,hv,b⟩
   ·simp at h4
 ·simp at h2
theorem VV(hR:Rel B lo0 m H w){r:Nat}{p:dO}{es:List ((Value×Value)×Nat)}{c:Nat}(hm:m r=some p)(h:mapOf H r=some (es,c)):
  (∃o,H.objs.get r=some o∧∀ c g t,o≠ .row c g t)∧∃ bb:Array MapEntry,w.heap[p.ax]? =some (.map bb c)∧bb.size=es.length∧∀ (i:Nat) (k v:Value) (b:Nat),es[i]? =some ((k,v),b)→∃ e':MapEntry,bb[i]? =some e'∧VRel m k e'.key∧VRel m v e'.val∧e'.born=b:=by
 unfold mapOf at h
 split at h
 ·rename_i Ht hr
  simp only[wi,wk]at h
  obtain⟨rfl,rfl⟩:=h
  obtain⟨bb,a,b,d⟩:=hR.obj r p _ hm hr
  refine⟨⟨_,hr,fun c g t h=>by cases h⟩,bb,by rw[←b];exact a,by rw[Nj];exact b,fun i k v n hi=>?_⟩
  rw[Ni,wa6]at hi
  obtain⟨e,h1,h2⟩:=hi
  simp only[wau,wk]at h2
  obtain⟨rfl,rfl⟩:=h2
  exact d i k v h1
 ·rename_i Ht c₀ hr
  simp only[wi,wk]at h
  obtain⟨rfl,rfl⟩:=h
  exact⟨⟨_,hr,fun c g t h=>by cases h⟩,hR.obj r p _ hm hr⟩
 ·simp at h
theorem Mx{r:Nat}{es:List ((Value×Value)×Nat)}{c:Nat}{H':Heap}(h:H.Gc r es c=some H'):H.lo≤r∧H'.next=H.next∧H'.lo=H.lo∧H'.grps=H.grps∧
  ∀j x,H'.objs.get j=some x→(j=r∧x= .lh es c)∨(j≠r∧H.objs.get j=some x):=by
 unfold Heap.Gc at h
 obtain⟨h1,h2⟩:=cD h
 simp only[waM,wbi]at h1
 simp only[Tr.force_eq,wi]at h2
 subst h2
 exact⟨h1,rfl,rfl,rfl,fun j x hx=>Tr.dm hx⟩
theorem VW(hE:EnvOk E)(hR:Rel B lo0 m H w){t:TypeId}{x x' k k':Value}{H':Heap}{ts:Array TypeId}{bI:Array Value}{ty:TypeId}(h:Ao E H t x k=some H')(hx:VRel m x x')(hk:VRel m k k')(ht:ts[0]? =some t)(h0:bI[0]? =some x')(dS:bI[1]? =some k'):
  ∃w',(Builtin.delete_ ts ty bI).run E.P w= .ok (.tuple #[]) w'∧Good B lo0 m H w m H' w':=by
 simp only[Ao,we]at h
 obtain⟨i,h1,h2⟩:=h
 split at h2
 ·rename_i kt et r hd
  obtain⟨h3,h4⟩:=cD h2
  simp only[waM]at h3
  obtain⟨rfl,qI,pw⟩:=Hq hE h3 hk
  simp only[we]at h4
  obtain⟨⟨es,c⟩,h5,f,h6,h7⟩:=h4
  cases hx with
  |map hm=>
   rename_i p
   obtain⟨⟨o,ho,eA⟩,bb,a,b,d⟩:=VV hR hm h5
   obtain⟨f',hf,dQ⟩:=Hp (P:=E.P) pw h6 (Nh b d)
   cases f with
   |none=>
    simp only[wi]at h7
    subst h7
    subst dQ
    refine⟨dI w p.ax (.map bb c),?_,by rw[MW a];exact .refl hR⟩
    simp only[Builtin.delete_,ht,h0,dS,wB,hE.desc h1 hd,wu,ib a (fun c e f h=>by cases h),qI,hf,qo a (fun c e f h=>by cases h),wC]
   |some jv=>
    obtain⟨j,v₀⟩:=jv
    obtain⟨v',rfl,_,_⟩:=dQ
    simp only at h7
    obtain⟨g1,g2,g3,g4,g5⟩:=Mx h7
    have hb:p.ax<w.heap.size:=(w0.1 a).1
    refine⟨dI w p.ax (.map (bb.eraseIdxIfInBounds j) c),?_,Good.exchange hR hm g1 ho eA (fun c g t h=>by cases h) g2 g3 g4 g5 ⟨_,nG _ hb,?_,fun i k v n hi=>?_⟩⟩
    ·simp only[Builtin.delete_,ht,h0,dS,wB,hE.desc h1 hd,wu,ib a (fun c e f h=>by cases h),qI,hf,qo a (fun c e f h=>by cases h),wC]
    ·rw[←waF,Nk,List.length_eraseIdx,List.length_eraseIdx,waF,b]
    ·rw[List.getElem?_eraseIdx]at hi
     have he:∀ i,(bb.eraseIdxIfInBounds j)[i]? =if i<j then bb[i]? else bb[i+1]? :=fun i=>by
      rw[←wao,Nk,List.getElem?_eraseIdx,wao,wao]
     rw[he]
     split at hi
     ·rename_i kb;rw[wF kb];exact d i k v n hi
     ·rename_i kb;rw[wI kb];exact d (i+1) k v n hi
 ·simp at h2
end
section
variable[Maps]{B lo0:Nat}{m:Match}{H:Heap}{w:World}{E:Env}
end
section
variable{B lo0:Nat}{m:Match}{w:World}{P:Program}
theorem VX{ts:Array TypeId}{args:Array Value}{t t' e:TypeId}{s x:Value}{base:Option Addr}{dr gh n size:Nat}{e₂:TypeId}{P:Program}(ht:ts[0]? =some t)(jh:ts[1]? =some t')(hs:args[0]? =some s)(hx:args[1]? =some x)
  (oa:s= .slice base dr gh) (hd:∀ w,(underlying t).run P w= .ok (.slice e) w) (iZ:∀ w,(underlying t').run P w= .ok (.slice e₂) w) (bf:∀ w,(sizeOf e).run P w= .ok size w) (bj:(Builtin.lenOf x).run P w= .ok n w) (ty:TypeId):
  (Builtin.append_ ts ty args).run P w=(appendTail size e s base dr gh n false (Builtin.mayShare size dr n base x) (Builtin.firstCells size n x)).run P w:=by
 subst oa
 simp only[Builtin.append_,appendTail,ht,jh,hs,hx,wB,hd,iZ,bf,wu,wC,wG,waa,bj,wb0,wah]
 rfl
theorem VY{ts:Array TypeId}{args:Array Value}{t t' e:TypeId}{s x:Value}{base:Option Addr}{dr gh n size:Nat}{kd k:IntKind}{j:Int}{P:Program}{info:TypeInfo}(ht:ts[0]? =some t)(jh:ts[1]? =some t')(hs:args[0]? =some s)
  (hx:args[1]? =some x) (oa:s= .slice base dr gh) (VZ:x= .int k j) (hd:∀ w,(underlying t).run P w= .ok (.slice e) w) (iZ:∀ w,(underlying t').run P w= .ok (.int kd) w) (bf:∀ w,(sizeOf e).run P w= .ok size w)
  (hj:IntKind.i64.wrap j=(n:Int)) (hi:∀ w,(typeInfo e).run P w= .ok info w) (hb:n*info.bytes≤10000000000) (ty:TypeId):
  (Builtin.append_ ts ty args).run P w=(appendTail size e s base dr gh n true (Builtin.mayShare size dr n base x)
   (if n*size=0 then pure #[]else do pure (Builtin.zeroCells (←zeroValue e).cells n))).run P w:=by
 subst oa;subst VZ
 have h1:¬ ((n:Int)<0):=by omega
 have h2:¬ ((n:Int)*(info.bytes:Int)>2^48):=by
  rw[←Int.natCast_mul];omega
 simp only[Builtin.append_,appendTail,ht,jh,hs,hx,wB,hd,iZ,bf,wu,wC,wah,asInt,asIntOf,hj,h1,waa,hi,h2,waD,wa7,wG]
 rfl
theorem Nq{P:Program}:∀ {l:List Value} {x v:Value},minV x l=some v→∀ {x':Value} {l':List Value},VRel m x x'→LRel m l l'→∃ v',(List.foldlM Builtin.min2 x' l').run P w= .ok v' w∧VRel m v v'
 |[],x,v,h,x',l',hx,hl=>by
  have:=hl.mG
  subst this
  simp only[minV,wi]at h
  subst h
  exact⟨x',rfl,hx⟩
 |y::l,x,v,h,x',l',hx,hl=>by
  obtain⟨y',r,rfl,hy,hr⟩:=hl.oC
  cases x<;>cases y<;>simp only[minV,reduceCtorEq]at h
  cases hx;cases hy
  obtain⟨v',h1,h2⟩:=Nq h (.int _ _) hr
  refine⟨v',?_,h2⟩
  simp only[List.foldlM_cons,wB,Builtin.min2,wC,wu]
  rename_i k a k' b
  have e:(bif mI b a then b else a)=(if b<a then b else a):=by rw[pE];by_cases hb:b<a<;>simp[hb]
  rw[e]at h1
  exact h1
theorem Nr{P:Program}:∀ {l:List Value} {x v:Value},x6 x l=some v→∀ {x':Value} {l':List Value},VRel m x x'→LRel m l l'→∃ v',(List.foldlM Builtin.max2 x' l').run P w= .ok v' w∧VRel m v v'
 |[],x,v,h,x',l',hx,hl=>by
  have:=hl.mG
  subst this
  simp only[x6,wi]at h
  subst h
  exact⟨x',rfl,hx⟩
 |y::l,x,v,h,x',l',hx,hl=>by
  obtain⟨y',r,rfl,hy,hr⟩:=hl.oC
  cases x<;>cases y<;>simp only[x6,reduceCtorEq]at h
  cases hx;cases hy
  obtain⟨v',h1,h2⟩:=Nr h (.int _ _) hr
  refine⟨v',?_,h2⟩
  simp only[List.foldlM_cons,wB,Builtin.max2,wC,wu]
  rename_i k a k' b
  have e:(bif mI a b then b else a)=(if b>a then b else a):=by rw[pE];by_cases hb:a<b<;>simp[hb]
  rw[e]at h1
  exact h1
theorem Hu{m:Match}{x y:Value}{l:List Value}{args:Array Value}(h:LRel m (x::y::l) args.toList):∃ x' y',args[0]? =some x'∧args[1]? =some y'∧VRel m x x'∧VRel m y y':=by
 obtain⟨x',h1,h2⟩:=h.get (i:=0) rfl
 obtain⟨y',h3,h4⟩:=h.get (i:=1) rfl
 exact⟨x',y',by simpa using h1,by simpa using h3,h2,h4⟩
theorem Ns{m:Match}{x:Value}{l:List Value}{args:Array Value}(h:LRel m (x::l) args.toList):∃ x',args[0]? =some x'∧VRel m x x':=by
 obtain⟨x',h1,h2⟩:=h.get (i:=0) rfl
 exact⟨x',by simpa using h1,h2⟩
theorem yE{ts:Array TypeId}{l:List TypeId}(h:ts.toList=l)(i:Nat):ts[i]? =l[i]? :=by rw[←h];simp
end
section
variable[Maps]{B lo0:Nat}{m:Match}{H:Heap}{w:World}{E:Env}
theorem V0(hE:EnvOk E)(hR:Rel B lo0 m H w){ts:Array TypeId}{t:TypeId}{tl:List TypeId}(ht:ts.toList=t::tl){x:Value}{l:List Value}{args:Array Value}(ha:LRel m (x::l) args.toList){v:Value}{H':Heap}
  (h:builtinV E H .len (t::tl) (x::l)=some (v,H')) (ty:TypeId):H'=H∧∃ v',(Builtin.len_ ts ty args).run E.P w= .ok v' w∧VRel m v v':=by
 obtain⟨x',hx,hr⟩:=Ns ha
 have ji:ts[0]? =some t:=by rw[yE ht];rfl
 simp only[builtinV,we]at h
 obtain⟨i,h1,h2⟩:=h
 split at h2
 ·rename_i hd;cases hr
  simp only[wi,wk]at h2;obtain⟨rfl,rfl⟩:=h2
  exact⟨rfl,_,by simp[Builtin.len_,ji,hx,hE.desc h1 hd,goInt],.int _ _⟩
 ·rename_i hd
  simp only[wi,wk]at h2;obtain⟨rfl,rfl⟩:=h2
  exact⟨rfl,_,by simp[Builtin.len_,ji,hx,hE.desc h1 hd,goInt],.int _ _⟩
 ·rename_i hd
  simp only[wi,wk]at h2;obtain⟨rfl,rfl⟩:=h2
  refine⟨rfl,_,?_,.int _ _⟩
  cases hr<;>simp[Builtin.len_,ji,hx,hE.desc h1 hd,goInt]
 ·rename_i hd;cases hr
  simp only[wi,wk]at h2;obtain⟨rfl,rfl⟩:=h2
  exact⟨rfl,_,by simp[Builtin.len_,ji,hx,hE.desc h1 hd,goInt],.int _ _⟩
 ·rename_i r hd
  split at h2
  ·rename_i es sf
   simp only[wi,wk]at h2;obtain⟨rfl,rfl⟩:=h2
   cases hr with
   |map hm=>
    obtain⟨bb,a,b,_⟩:=hR.obj r _ _ hm sf
    exact⟨rfl,.int .i64 (bb.size:Int),by simp[Builtin.len_,ji,hx,hE.desc h1 hd,goInt,ib a (fun c e f h=>by cases h)],by rw[b];exact .int _ _⟩
  ·simp at h2
 ·simp at h2
theorem UL(hE:EnvOk E)(hR:Rel B lo0 m H w){b:Builtin}{ts:Array TypeId}{args:List Value}{bI:Array Value}(ha:LRel m args bI.toList){v:Value}{H':Heap}(h:builtinV E H b ts.toList args=some (v,H'))(ty:TypeId)(cs:Array Bool):
  ∃v' w' m',(builtin b ts ty cs bI).run E.P w= .ok (.value v') w'∧Good B lo0 m H w m' H' w'∧VRel m' v v':=by
 unfold builtinV at h
 split at h
 ·
  rename_i t tl x l mS
  obtain⟨h1,v',h2,h3⟩:=V0 hE hR mS ha (v:=v) (H':=H') (by simpa only[builtinV]using h) ty
  subst h1
  exact⟨v',w,m,by simp only[builtin,wB,h2,wu,wC],.refl hR,h3⟩
 ·
  rename_i x l _
  simp only[we,wi,wk]at h
  obtain⟨u,h1,rfl,rfl⟩:=h
  obtain⟨x',l',hl,hx,hr⟩:=ha.oC
  obtain⟨v',h2,h3⟩:=Nq (w:=w) (P:=E.P) h1 hx hr
  exact⟨v',w,m,by simp only[builtin,Builtin.min_,hl,wB,h2,wu,wC],.refl hR,h3⟩
 ·
  rename_i x l _
  simp only[we,wi,wk]at h
  obtain⟨u,h1,rfl,rfl⟩:=h
  obtain⟨x',l',hl,hx,hr⟩:=ha.oC
  obtain⟨v',h2,h3⟩:=Nr (w:=w) (P:=E.P) h1 hx hr
  exact⟨v',w,m,by simp only[builtin,Builtin.max_,hl,wB,h2,wu,wC],.refl hR,h3⟩
 ·
  rename_i t t' tl s x l mS
  obtain⟨s',x',hs,hx,rs,rx⟩:=Hu ha
  have ji:ts[0]? =some t:=by rw[yE mS];rfl
  have Bd:ts[1]? =some t':=by rw[yE mS];rfl
  simp only[we]at h
  obtain⟨i,h1,i',h2,h3⟩:=h
  split at h3
  ·rename_i e hd
   split at h3
   ·rename_i k kd n iZ
    simp only[we]at h3
    obtain⟨j,h4,nl,h5,ie,h6,h7⟩:=h3
    obtain⟨h8,h9⟩:=cn h7
    simp only[wA,wbp,wbi]at h8
    simp only[Di,we,wi]at h5
    obtain⟨ie',tS,z,hz,rfl⟩:=h5
    rw[h6]at tS;cases tS
    obtain⟨hp,kS⟩:=hE.zero h6 hz
    obtain⟨info,hi,hb⟩:=hE.bytes h6
    obtain⟨rfl,xX⟩:=to?_eq h4
    cases rx
    have Wa:IntKind.i64.wrap (j:Int)=(j:Int):=yC .i64 _ (by simp only[IntKind.min,IntKind.signed,IntKind.bits];simp only[wah];omega) (by simp only[IntKind.max,IntKind.signed,IntKind.bits];simp only[wah];omega)
    have cK:∀ w':World,w'.heap=w.heap→(if j*ie.size=0 then pure #[]else do pure (Builtin.zeroCells (←zeroValue e).cells j):Sem (Array Value)).run E.P w'= .ok (df (cg z) j).toArray w':=by
     intro w' _
     by_cases h0:j*ie.size=0
     ·rw[wF h0]
      have:df (cg z) j=[]:=wby.1 (by rw[h8.1,h0])
      rw[this];rfl
     ·rw[wI h0]
      have Hv:Builtin.zeroCells z.cells j=(df (cg z) j).toArray:=by
       apply wcJ
       unfold Builtin.zeroCells
       rw[zZ,ju]
      simp only[wB,kS,wu,wC,Hv]
    have vG:=Kw (zeros:=true) (sh:=Builtin.mayShare ie.size (match s' with| .slice _ l _=>l|_=>0) j (match s' with| .slice b _ _=>b|_=>none) (.int kd (j:Int))) hE hR h9 rs ((yB hp).repeat j) h6 h8.1 cK
    obtain⟨base,dr,gh,oa,vG⟩:=vG
    obtain⟨v',w',m',aZ,aY,bH⟩:=vG
    refine⟨v',w',m',?_,aY,bH⟩
    have Hw:=VY (w:=w) (P:=E.P) ji Bd hs hx oa rfl (hE.desc h1 hd) (hE.desc h2 iZ) (hE.oH h6) Wa hi (by rw[hb];exact h8.2) ty
    subst oa
    simp only[builtin,wB,Hw]
    rw[aZ]
    rfl
   ·rename_i e' a n cap iZ
    simp only[we,Env.size,wi]at h3
    obtain⟨z,⟨ie,h6,rfl⟩,nl,h5,h9⟩:=h3
    obtain⟨l',aZ,aY⟩:=zY (size:=ie.size) (k:=n) hR h5 rx rfl (fun a e=>by cases e;simp)
    have bj:(Builtin.lenOf x').run E.P w= .ok n w:=by cases rx<;>rfl
    have vG:=Kw (zeros:=false) (app:=Builtin.firstCells ie.size n x') (sh:=Builtin.mayShare ie.size (match s' with| .slice _ l _=>l|_=>0) n (match s' with| .slice b _ _=>b|_=>none) x') hE hR h9 rs aZ h6 (Kt h5) (fun w' hw=>aY w' hw E.P)
    obtain⟨base,dr,gh,oa,vG⟩:=vG
    obtain⟨v',w',m',bH,bQ,jZ⟩:=vG
    refine⟨v',w',m',?_,bQ,jZ⟩
    have Hw:=VX (w:=w) (P:=E.P) ji Bd hs hx oa (hE.desc h1 hd) (hE.desc h2 iZ) (hE.oH h6) bj ty
    subst oa
    simp only[builtin,wB,Hw]
    rw[bH]
    rfl
   ·simp at h3
  ·simp at h3
 ·
  rename_i t tl d x l mS
  obtain⟨d',x',D4,oc,rd,rx⟩:=Hu ha
  have ji:ts[0]? =some t:=by rw[yE mS];rfl
  simp only[we]at h
  obtain⟨i,h1,h2⟩:=h
  split at h2
  ·rename_i e base dl cap a n vF hd
   simp only[we,Env.size,wi]at h2
   obtain⟨z,⟨ie,h6,rfl⟩,nl,h5,h9⟩:=h2
   obtain⟨l',aZ,aY⟩:=zY (size:=ie.size) (k:=Nat.min n dl) hR h5 rx rfl (fun a e=>by cases e;simp)
   have bj:(Builtin.lenOf x').run E.P w= .ok n w:=by cases rx<;>rfl
   split at h9
   ·cases rd
    simp only[wi,wk]at h9
    obtain⟨rfl,rfl⟩:=h9
    exact⟨_,w,m,by simp only[builtin,Builtin.copy_,ji,D4,oc,wB,hE.desc h1 hd,wu,bj,hE.oH h6,aY w rfl,wC,goInt],.refl hR,.int _ _⟩
   ·rename_i r o
    simp only[we,wi,wk]at h9
    obtain⟨H₁,bH,rfl,rfl⟩:=h9
    cases rd with
    |slice hm hc hex hi=>
     obtain⟨w',bQ,jZ⟩:=xS (P:=E.P) hR hm bH aZ
     exact⟨_,w',m,by simp only[builtin,Builtin.copy_,ji,D4,oc,wB,hE.desc h1 hd,wu,bj,hE.oH h6,aY w rfl,bQ,wC,goInt],jZ,.int _ _⟩
    |empty a hm he=>
     have oZ:nl=[]:=wby.1 (by rw[Kt h5];simp)
     subst oZ
     obtain⟨w',bQ,jZ⟩:=xS (P:=E.P) hR hm bH aZ
     have hl0:=aZ.mG
     subst hl0
     simp only[storeCells,wC,Result.ok.injEq,wbT]at bQ
     subst bQ
     exact⟨_,w,m,by simp only[builtin,Builtin.copy_,ji,D4,oc,wB,hE.desc h1 hd,wu,bj,hE.oH h6,aY w rfl,storeCells,wC,goInt],jZ,.int _ _⟩
   ·simp at h9
  ·simp at h2
 ·
  rename_i t tl x k l mS
  obtain⟨x',k',oc,jY,rx,rk⟩:=Hu ha
  have ji:ts[0]? =some t:=by rw[yE mS];rfl
  simp only[we,wi,wk]at h
  obtain⟨H₁,h1,rfl,rfl⟩:=h
  obtain⟨w',h2,h3⟩:=VW (ty:=ty) hE hR h1 rx rk ji oc jY
  exact⟨_,w',m,by simp only[builtin,wB,h2,wu,wC],h3,.tuple rfl (fun i v v' h=>by simp at h)⟩
 ·
  rename_i t tl x l mS
  obtain⟨x',oc,rx⟩:=Ns ha
  have ji:ts[0]? =some t:=by rw[yE mS];rfl
  simp only[we]at h
  obtain⟨i,h1,h2⟩:=h
  split at h2
  ·rename_i hd
   cases rx
   simp only[wi,wk]at h2
   obtain⟨rfl,rfl⟩:=h2
   exact⟨_,w,m,by simp only[builtin,Builtin.clear_,ji,oc,wB,hE.desc h1 hd,wu,wC],.refl hR,.tuple rfl (fun i v v' h=>by simp at h)⟩
  ·rename_i e r o n cap hd
   simp only[we,wi,wk,Di]at h2
   obtain⟨nl,⟨ie,h6,z,hz,rfl⟩,H₁,bH,rfl,rfl⟩:=h2
   obtain⟨hp,kS⟩:=hE.zero h6 hz
   have Hv:Builtin.zeroCells z.cells n=(df (cg z) n).toArray:=by
    apply wcJ
    unfold Builtin.zeroCells
    rw[zZ,ju]
   cases rx with
   |slice hm hc hex hi=>
    rename_i c' p
    obtain⟨w',bQ,jZ⟩:=xS (P:=E.P) hR hm bH ((yB hp).repeat n)
    by_cases h0:n=0
    ·subst h0
     simp only[df,storeCells,wC,Result.ok.injEq,wbT]at bQ
     subst bQ
     exact⟨_,w,m,by simp only[builtin,Builtin.clear_,ji,oc,wB,hE.desc h1 hd,wu,wC],jZ,.tuple rfl (fun i v v' h=>by simp at h)⟩
    ·obtain⟨n',rfl⟩:=Nat.exists_eq_succ_of_ne_zero h0
     exact⟨_,w',m,by simp only[builtin,Builtin.clear_,ji,oc,wB,hE.desc h1 hd,wu,kS,Hv,bQ,wC],jZ,.tuple rfl (fun i v v' h=>by simp at h)⟩
   |empty a hm he=>
    obtain⟨w',bQ,jZ⟩:=xS (P:=E.P) hR hm bH ((yB hp).repeat 0)
    simp only[df,storeCells,wC,Result.ok.injEq,wbT]at bQ
    subst bQ
    exact⟨_,w,m,by simp only[builtin,Builtin.clear_,ji,oc,wB,hE.desc h1 hd,wu,wC],jZ,.tuple rfl (fun i v v' h=>by simp at h)⟩
  ·simp at h2
 ·simp at h
end
end Go.AM
