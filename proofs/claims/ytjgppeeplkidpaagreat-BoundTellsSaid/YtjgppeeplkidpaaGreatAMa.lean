/-
  Walks over letters of the functions that the law reaches; written small by a program of mine.
-/
import Derived.Carry
import Derived.ChangeArms
import Derived.ChangeKeysEq
import Derived.KernelRfl
import Derived.Laws.BytesString
import Derived.Laws.Cells
import Derived.Laws.Entries
import Derived.Laws.Externs
import Derived.Laws.StructEq
import Derived.Laws.Tables
import Derived.LoopNIn
import Derived.Maps.RangeRun
import Derived.OpenShut
import Derived.OrdersIn
import Derived.ProofKit
import Derived.RangeFuncLeaves
import Derived.TacticsIn
import Derived.WideShapes
set_option linter.unusedSimpArgs false
set_option linter.unusedVariables false
set_option linter.unusedSectionVars false
namespace Go.AM
open Go
set_option linter.defProp false
theorem kq{P:Prop}(h:P:=by kernel_rfl):P:=h
def we := @Option.bind_eq_some_iff
def wi := @Option.some.injEq
def wj := @List.getElem?_eq_getElem
def wk := @Prod.mk.injEq
def wo := @Option.bind_some
def wq := @Nat.lt_of_lt_of_le
def wu := @Result.andThen_ok
def wx := @decide_eq_false
def wy := @Nat.le_refl
def wz := @decide_eq_true
def wA := @Bool.and_eq_true
def wB := @Sem.run_bind
def wC := @Sem.run_pure
def wD := @List.getElem?_eq_some_iff
def wE := @Eq.trans
def wF := @if_pos
def wG := @Bool.false_eq_true
def wI := @if_neg
def wJ := @Nat.zero_le
def wK := @Nat.le_trans
def wL := @List.nil_append
def wM := @List.mem_cons_of_mem
def wN := @List.length_append
def wO := @List.length_map
def wP := @Nat.ble_eq_true_of_le
def wQ := @List.getElem?_cons_zero
def wR := @List.take_add_one
def wS := @cond_false
def wT := @decide_eq_true_eq
def wU := @List.length_take
def wW := @List.mem_cons_self
def wX := @List.drop_eq_getElem_cons
def wY := @List.length_cons
def wZ := @List.take_of_length_le
def w0 := @Array.getElem?_eq_some_iff
def waa := @if_false
def wab := @List.getElem?_take
def wac := @List.eq_nil_of_length_eq_zero
def wad := @List.mem_cons
def wae := @List.getElem?_drop
def waf := @List.getElem?_append_left
def wag := @List.mem_of_getElem?
def wah := @if_true
def wai := @cond_true
def waj := @List.take_length
def wak := @List.getElem?_eq_none
def wal := @decide_eq_false_iff_not
def wam := @List.getElem_mem
def wan := @Nat.le_of_ble_eq_true
def wao := @Array.getElem?_toList
def wap := @of_decide_eq_true
def waq := @Value.slice.injEq
def war := @List.getElem?_map
def wat := @List.cons_append
def wau := @Nat.zero_add
def wav := @List.getD_eq_getElem?_getD
def waw := @List.append_nil
def wax := @Array.getD_eq_getD_getElem?
def waz := @Nat.le_of_lt
def waA := @List.length_nil
def waB := @List.getElem?_append_right
def waC := @List.all_eq_true
def waD := @Int.toNat_natCast
def waE := @Option.map_some
def waF := @Array.length_toList
def waG := @List.mem_singleton
def waH := @Option.some.inj
def waI := @List.mem_append
def waJ := @Go.wpIn_mono
def waK := @Bool.eq_false_iff
def waL := @decide_eq_true_iff
def waM := @Bool.not_eq_false'
def waN := @run_underlying
def waO := @List.drop_eq_nil_of_le
def waP := @List.append_assoc
def waQ := @Nat.mul_le_mul_right
def waR := @List.ext_getElem?
def waS := @Nat.min_eq_left
def waT := @List.map_append
def waU := @Bool.eq_iff_iff
def waV := @List.drop_succ_cons
def waW := @Nat.add_mul
def waX := @Nat.add_zero
def waY := @Nat.mul_one
def waZ := @List.drop_zero
def wa0 := @Array.getElem?_eq_getElem
def wa5 := @false_iff
def wa6 := @Option.map_eq_some_iff
def wa7 := @Bool.not_true
def wa8 := @Array.getElem?_setIfInBounds_ne
def wa9 := @Bool.true_and
def wba := @Array.toList_eq_nil_iff
def wbb := @List.not_mem_nil
def wbc := @Nat.beq_refl
def wbd := @List.flatMap_append
def wbe := @List.length_drop
def wbf := @Nat.lt_succ_of_lt
def wbg := @Nat.pow_le_pow_right
def wbh := @true_iff
def wbi := @Nat.ble_eq
def wbj := @Bool.false_and
def wbk := @List.map_cons
def wbl := @Ne.symm
def wbm := @List.flatMap_cons
def wbn := @List.length_replicate
def wbo := @List.getElem?_cons_succ
def wbp := @Nat.beq_eq
def wbq := @beq_self_eq_true
def wbr := @Option.getD_some
def wbs := @List.drop_of_length_le
def wbt := @Bool.not_eq_true'
def wbu := @List.all_cons
def wbv := @List.nodup_nil
def wbw := @Nat.eq_of_beq_eq_true
def wbx := @List.mem_iff_getElem?
def wby := @List.length_eq_zero_iff
def wbz := @Int.eq_ofNat_of_zero_le
def wbA := @Array.getElem?_setIfInBounds
def wbB := @Bool.cond_self
def wbC := @List.getElem?_range
def wbD := @Array.getElem?_push
def wbE := @Nat.le_max_right
def wbF := @List.drop_length
def wbG := @List.mem_map
def wbH := @Nat.add_assoc
def wbI := @of_decide_eq_false
def wbJ := @List.length_singleton
def wbK := @Classical.byContradiction
def wbL := @List.mem_iff_getElem
def wbM := @Bool.or_eq_false_iff
def wbN := @run_newObj
def wbO := @beq_iff_eq
def wbP := @Nat.le_max_left
def wbQ := @List.cons.injEq
def wbR := @Bool.or_eq_true
def wbS := @Nat.sub_self
def wbT := @true_and
def wbU := @Nat.one_mul
def wbV := @Array.toList_append
def wbW := @Array.toList_inj
def wbX := @List.take_append_of_le_length
def wbY := @List.drop_append_of_le_length
def wbZ := @List.drop_drop
def wb0 := @Bool.not_false
def wb1 := @Option.isSome_some
def wb2 := @Nat.zero_mul
def wb3 := @List.idxOf_cons
def wb4 := @List.foldl_cons
def wb5 := @List.length_filter_le
def wb6 := @List.idxOf_lt_length_of_mem
def wb7 := @Array.getElem?_setIfInBounds_self_of_lt
def wb8 := @Bool.and_self
def wb9 := @List.length_range
def wca := @List.getElem?_set
def wcb := @Array.getElem?_append_left
def wcc := @List.mem_range
def wcd := @Nat.lt_succ_self
def wce := @List.filter_cons
def wcf := @List.countP_cons
def wcg := @Int.natCast_zero
def wch := @List.take_succ_cons
def wci := @Option.isSome_iff_exists
def wcj := @List.getElem?_take_of_lt
def wck := @or_false
def wcl := @and_true
def wcm := @Bool.and_true
def wcn := @List.length_set
def wco := @Int.natCast_nonneg
def wcp := @Array.ext_getElem?
def wcq := @List.take_zero
def wcr := @Nat.and_two_pow_sub_one_eq_mod
def wcs := @roundsIn_succ
def wct := @Bool.false_or
def wcu := @Nat.pow_pos
def wcv := @List.takeWhile_cons_of_pos
def wcw := @Int.fdiv_eq_ediv_of_nonneg
def wcx := @Option.toList_some
def wcy := @Option.isNone_none
def wcz := @List.mem_filterMap
def wcA := @Array.foldl_toList
def wcB := @DataW.trod_int
def wcC := @not_true_eq_false
def wcD := @List.all_eq_false
def wcE := @Addr.mk.injEq
def wcF := @Nat.le_of_not_lt
def wcG := @Nat.mul_comm
def wcH := @Option.map_none
def wcI := @Array.getElem?_modify
def wcJ := @Array.ext'
def wcK := @Nat.not_succ_le_self
def wcL := @List.range_eq_range'
def wcM := @Array.getElem_toList
def wcN := @List.take_take
def wcO := @List.drop_take
def wcP := @Bool.and_false
def wcQ := @callsIn_of_wp_marks
def wcR := @Nat.testBit_two_pow
def wcS := @List.length_pos_iff
inductive Trie(α:Type) where
 |nil
 |node (v:Option α) (l r:Trie α)
def Trie.get{α:Type}:Trie α→Nat→Option α
 | .nil,_=>none
 | .node v l r,k=>
   match k with
   |0=>v
   |k+1=>bif Nat.beq (Nat.mod k 2) 0 then l.get (Nat.div k 2)else r.get (Nat.div k 2)
def Trie.force{α β:Type}(t:Trie α)(f:Trie α→β):β:=
 match t with
 | .nil=>f .nil
 | .node v l r=>f (.node v l r)
def Trie.put{α:Type}(a:Option α):Nat→Nat→Trie α→Trie α
 |0,_,_=> .nil
 |n+1,k,t=>
  match k with
  |0=>
   match t with
   | .nil=> .node a .nil .nil
   | .node _ l r=> .node a l r
  |k+1=>
   match t with
   | .nil=>
     bif Nat.beq (Nat.mod k 2) 0 then(Trie.put a n (Nat.div k 2) .nil).force fun x=> .node none x .nil
     else(Trie.put a n (Nat.div k 2) .nil).force fun x=> .node none .nil x
   | .node v l r=>
     bif Nat.beq (Nat.mod k 2) 0 then(Trie.put a n (Nat.div k 2) l).force fun x=> .node v x r
     else(Trie.put a n (Nat.div k 2) r).force fun x=> .node v l x
def deep:Nat:=40
def Trie.set{α:Type}(t:Trie α)(k:Nat)(a:α):Trie α:=Trie.put (some a) deep k t
def Trie.del{α:Type}(t:Trie α)(k:Nat):Trie α:=Trie.put none deep k t
theorem Trie.force_eq{α β:Type}(t:Trie α)(f:Trie α→β):t.force f=f t:=by cases t<;>rfl
theorem pE(x:Nat):(Nat.beq (x%2) 0=true∧x%2=0)∨(Nat.beq (x%2) 0=false∧x%2=1):=by
 rcases Nat.mod_two_eq_zero_or_one x with h|h
 ·exact .inl ⟨by rw[h];rfl,h⟩
 ·exact .inr ⟨by rw[h];rfl,h⟩
theorem Trie.yq{α:Type}(a:Option α)(v:α):∀ (n k j:Nat) (t:Trie α),(Trie.put a n k t).get j=some v→(j=k∧a=some v)∨(j≠k∧t.get j=some v)
 |0,k,j,t,h=>by simp[Trie.put,Trie.get]at h
 |n+1,0,j,t,h=>by cases t<;>cases j<;>simp_all[Trie.put,Trie.get]
 |n+1,k+1,j,t,h=>by
  have e:Nat.div k 2=k/2:=rfl
  have em:Nat.mod k 2=k%2:=rfl
  cases j with
  |zero=>
   cases t<;>simp only[Trie.put,Trie.force_eq,e,em]at h<;>rcases pE k with⟨h1,_⟩|⟨h1,_⟩<;>simp[h1,Trie.get]at h<;>exact .inr ⟨by omega,h⟩
  |succ j=>
   have ej:Nat.div j 2=j/2:=rfl
   have AD:Nat.mod j 2=j%2:=rfl
   cases t with
   |nil=>
    simp only[Trie.put,Trie.force_eq,e,em]at h
    rcases pE k with⟨h1,h2⟩|⟨h1,h2⟩<;>rcases pE j with⟨h3,h4⟩|⟨h3,h4⟩<;>simp only[h1,h3,Trie.get,wai,wS,ej,AD,reduceCtorEq]at h
    ·rcases Trie.yq a v n (k/2) (j/2) .nil h with⟨h5,h6⟩|⟨_,h6⟩
     ·exact .inl ⟨by omega,h6⟩
     ·simp[Trie.get]at h6
    ·rcases Trie.yq a v n (k/2) (j/2) .nil h with⟨h5,h6⟩|⟨_,h6⟩
     ·exact .inl ⟨by omega,h6⟩
     ·simp[Trie.get]at h6
   |node u l r=>
    simp only[Trie.put,Trie.force_eq,e,em]at h
    rcases pE k with⟨h1,h2⟩|⟨h1,h2⟩<;>rcases pE j with⟨h3,h4⟩|⟨h3,h4⟩<;>simp only[h1,h3,Trie.get,wai,wS,ej,AD]at h⊢
    ·rcases Trie.yq a v n (k/2) (j/2) l h with⟨h5,h6⟩|⟨h5,h6⟩
     ·exact .inl ⟨by omega,h6⟩
     ·exact .inr ⟨by omega,h6⟩
    ·exact .inr ⟨by omega,h⟩
    ·exact .inr ⟨by omega,h⟩
    ·rcases Trie.yq a v n (k/2) (j/2) r h with⟨h5,h6⟩|⟨h5,h6⟩
     ·exact .inl ⟨by omega,h6⟩
     ·exact .inr ⟨by omega,h6⟩
def vT:Nat:=549755813888
theorem Trie.yr{α:Type}(a:Option α):∀ (n k j:Nat) (t:Trie α),j≠k→j<2^n-1→(Trie.put a n k t).get j=t.get j
 |0,k,j,t,_,h=>by simp at h
 |n+1,0,j,t,a9,_=>by
  cases j with
  |zero=>exact absurd rfl a9
  |succ j=>cases t<;>simp[Trie.put,Trie.get]
 |n+1,k+1,j,t,a9,hj=>by
  have e:Nat.div k 2=k/2:=rfl
  have em:Nat.mod k 2=k%2:=rfl
  have h2:2^(n+1)=2*2^n:=by rw[Nat.pow_succ];omega
  cases j with
  |zero=>cases t<;>simp only[Trie.put,Trie.force_eq,e,em]<;>rcases pE k with⟨h1,_⟩|⟨h1,_⟩<;>simp[h1,Trie.get]
  |succ j=>
   have ej:Nat.div j 2=j/2:=rfl
   have AD:Nat.mod j 2=j%2:=rfl
   have ud:j/2<2^n-1:=by omega
   have hx:Trie.get (α:=α) .nil (j/2)=none:=by simp[Trie.get]
   cases t with
   |nil=>
    simp only[Trie.put,Trie.force_eq,e,em]
    rcases pE k with⟨h1,h3⟩|⟨h1,h3⟩<;>rcases pE j with⟨h4,h5⟩|⟨h4,h5⟩<;>simp only[h1,h4,Trie.get,wai,wS,ej,AD]
    ·rw[Trie.yr a n (k/2) (j/2) .nil (by omega) ud,hx]
    ·rw[Trie.yr a n (k/2) (j/2) .nil (by omega) ud,hx]
   |node u l r=>
    simp only[Trie.put,Trie.force_eq,e,em]
    rcases pE k with⟨h1,h3⟩|⟨h1,h3⟩<;>rcases pE j with⟨h4,h5⟩|⟨h4,h5⟩<;>simp only[h1,h4,Trie.get,wai,wS,ej,AD]
    ·rw[Trie.yr a n (k/2) (j/2) l (by omega) ud]
    ·rw[Trie.yr a n (k/2) (j/2) r (by omega) ud]
theorem Trie.N8{α:Type}(a:Option α):∀ (n k:Nat) (t:Trie α),k<2^n-1→(Trie.put a n k t).get k=a
 |0,k,t,h=>by simp at h
 |n+1,0,t,_=>by cases t<;>simp[Trie.put,Trie.get]
 |n+1,k+1,t,hk=>by
  have e:Nat.div k 2=k/2:=rfl
  have em:Nat.mod k 2=k%2:=rfl
  have h2:2^(n+1)=2*2^n:=by rw[Nat.pow_succ];omega
  have gZ:k/2<2^n-1:=by omega
  cases t<;>simp only[Trie.put,Trie.force_eq,e,em]<;>rcases pE k with⟨h1,_⟩|⟨h1,_⟩<;>simp only[h1,Trie.get,wai,wS,e,em]<;>exact Trie.N8 a n (k/2) _ gZ
theorem G8{k:Nat}(h:k<vT):k<2^deep-1:=by
 have:vT≤2^deep-1:=by decide
 omega
theorem Trie.dq{α:Type}{t:Trie α}{k j:Nat}{a v:α}(h:(t.set k a).get j=some v):(j=k∧v=a)∨(j≠k∧t.get j=some v):=by
 rcases Trie.yq (some a) v deep k j t h with⟨h1,h2⟩|h
 ·exact .inl ⟨h1,by simpa using h2.symm⟩
 ·exact .inr h
theorem Trie.jm{α:Type}{t:Trie α}{k j:Nat}{v:α}(h:(t.del k).get j=some v):j≠k∧t.get j=some v:=by
 rcases Trie.yq none v deep k j t h with⟨_,h2⟩|h
 ·simp at h2
 ·exact h
theorem Trie.mO{α:Type}{t:Trie α}{k:Nat}{a:α}(h:k<vT):(t.set k a).get k=some a:=Trie.N8 _ _ _ _ (G8 h)
theorem Trie.vd{α:Type}{t:Trie α}{k j:Nat}{a:α}(a9:j≠k)(h:j<vT):(t.set k a).get j=t.get j:=Trie.yr _ _ _ _ _ a9 (G8 h)
theorem Trie.vB{α:Type}{t:Trie α}{k j:Nat}(a9:j≠k)(h:j<vT):(t.del k).get j=t.get j:=Trie.yr _ _ _ _ _ a9 (G8 h)
class Maps where
 T:Type→Type
 nil:{α:Type}→T α
 get:{α:Type}→T α→Nat→Option α
 set:{α:Type}→T α→Nat→α→T α
 del:{α:Type}→T α→Nat→T α
 force:{α β:Type}→T α→(T α→β)→β
 get_nil:∀ {α:Type} (k:Nat),get (nil:T α) k=none
 dq:∀ {α:Type} {t:T α} {k j:Nat} {a v:α},get (set t k a) j=some v→(j=k∧v=a)∨(j≠k∧get t j=some v)
 jm:∀ {α:Type} {t:T α} {k j:Nat} {v:α},get (del t k) j=some v→j≠k∧get t j=some v
 aX:Nat→Bool
 low:Nat→Prop
 rM:∀ {n k:Nat},aX n=true→k≤n→low k
 mO:∀ {α:Type} {t:T α} {k:Nat} {a:α},low k→get (set t k a) k=some a
 vd:∀ {α:Type} {t:T α} {k j:Nat} {a:α},j≠k→low j→get (set t k a) j=get t j
 vB:∀ {α:Type} {t:T α} {k j:Nat},j≠k→low j→get (del t k) j=get t j
 force_eq:∀ {α β:Type} (t:T α) (f:T α→β),force t f=f t
@[reducible] def trieMaps:Maps where
 T:=Trie
 nil:= .nil
 get:=Trie.get
 set:=Trie.set
 del:=Trie.del
 force:=Trie.force
 get_nil k:=by simp[Trie.get]
 dq:=Trie.dq
 aX n:=Nat.blt n vT
 low n:=n<vT
 rM h hk:=Nat.lt_of_le_of_lt hk (wan h)
 jm:=Trie.jm
 mO:=Trie.mO
 vd:=Trie.vd
 vB:=Trie.vB
 force_eq:=Trie.force_eq
@[reducible] def fnMaps:Maps where
 T α:=Nat→Option α
 nil:=fun _=>none
 get t k:=t k
 set t k a:=fun j=>if j=k then some a else t j
 del t k:=fun j=>if j=k then none else t j
 force t f:=f t
 get_nil k:=rfl
 aX _:=true
 low _:=True
 rM _ _:=trivial
 dq {α t k j a v} h:=by
  by_cases hj:j=k
  ·simp[hj]at h;exact .inl ⟨hj,h.symm⟩
  ·simp[hj]at h;exact .inr ⟨hj,h⟩
 jm {α t k j v} h:=by
  by_cases hj:j=k
  ·simp[hj]at h
  ·simp[hj]at h;exact⟨hj,h⟩
 mO _:=by simp
 vd h _:=by simp[h]
 vB h _:=by simp[h]
 force_eq _ _:=rfl
def GN:Nat:=0
def GL(_:World):Prop:=True
theorem Md{w w':World}(_:∀ b,b<GN→w'.heap[b]? =w.heap[b]?)(_:GL w):GL w':=trivial
def BT:Nat:=1000000000
section
variable[Maps]
abbrev Tr(α:Type):Type:=Maps.T α
def Tr.nil{α:Type}:Tr α:=Maps.nil
def Tr.get{α:Type}(t:Tr α)(k:Nat):Option α:=Maps.get t k
def Tr.set{α:Type}(t:Tr α)(k:Nat)(a:α):Tr α:=Maps.set t k a
def Tr.del{α:Type}(t:Tr α)(k:Nat):Tr α:=Maps.del t k
def Tr.force{α β:Type}(t:Tr α)(f:Tr α→β):β:=Maps.force t f
def Tr.Fv{α:Type}:List α→Nat→Tr α→Tr α
 |[],_,t=>t
 |x::l,k,t=>Tr.Fv l (k+1) (t.set k x)
def Tr.of{α:Type}(l:List α):Tr α:=Tr.Fv l 0 Tr.nil
def Tr.CA{α:Type}:List (Option α)→Nat→Tr α→Tr α
 |[],_,t=>t
 | .some x::l,k,t=>Tr.CA l (k+1) (t.set k x)
 | .none::l,k,t=>Tr.CA l (k+1) t
def Tr.Lq{α:Type}(l:List (Option α)):Tr α:=Tr.CA l 0 Tr.nil
def forceNat{β:Type}(n:Nat)(f:Nat→β):β:=
 match n with
 |0=>f 0
 |n+1=>f (n+1)
def forceInt{β:Type}(n:Int)(f:Int→β):β:=
 match n with
 | .ofNat n=>forceNat n fun n=>f (.ofNat n)
 | .negSucc n=>forceNat n fun n=>f (.negSucc n)
def leI(a b:Int):Bool:=
 match a,b with
 | .ofNat x,.ofNat y=>Nat.ble x y
 | .ofNat _,.negSucc _=>false
 | .negSucc _,.ofNat _=>true
 | .negSucc x,.negSucc y=>Nat.ble y x
def eqI(a b:Int):Bool:=
 match a,b with
 | .ofNat x,.ofNat y=>Nat.beq x y
 | .negSucc x,.negSucc y=>Nat.beq x y
 |_,_=>false
def oC(a b:Int):Bool:= !leI b a
def at?(i:Int)(n:Nat):Option Nat:=
 match i with
 | .ofNat i=>bif Nat.blt i n then some i else none
 | .negSucc _=>none
def to?(i:Int)(n:Nat):Option Nat:=
 match i with
 | .ofNat i=>bif Nat.ble i n then some i else none
 | .negSucc _=>none
def plain1:Value→Bool
 | .bool _| .int _ _| .string _| .pointer none| .slice none _ _| .map none| .nilFunc| .nilIface=>true
 |_=>false
def plainV:Value→Bool
 | .agg cs=>cs.toList.all plain1
 |v=>plain1 v
structure TI where
 desc:TypeDesc
 size:Nat
 bytes:Nat
 agg:Bool
 zero:Option Value
 cmp:Bool
 fs:List (Nat×TypeId)
def descOf(P:Program)(i:TypeInfo):Option TypeDesc:=
 match i.desc with
 | .named _ u=>(P.info? u).bind fun j=>some j.desc
 |d=>some d
def isAggD:TypeDesc→Bool
 | .struct _=>true
 | .array _ _=>true
 |_=>false
def Lr:TypeDesc→List (Nat×TypeId)
 | .struct fs=>(fs.toList.filter fun f=>f.name != "_").map fun f=>(f.offset,f.type)
 |_=>[]
def TI.of(P:Program)(t:TypeId)(i:TypeInfo):Option TI:=
 (descOf P i).bind fun d=>some
 {desc:=d,size:=i.size,bytes:=i.bytes,agg:=isAggD d,
  zero:=(match i.zero with
   |some z=>bif plainV z then some z else none
   |none=>none),
  cmp:= !P.stoodInHeld t&& !P.eqGuardType P.depth t,fs:=Lr d}
inductive Fw where
 |start
 |told (i:Nat)
inductive AObj where
 |row (cells:List Value) (bH:Option (Nat×Nat)) (dF:Bool)
 |map (es:List (Value×Value))
 |loop (state:LoopState) (pending:Option Code) (size:Nat) (tmps:Tr Value) (params:List Tmp) (assign body:Code) (defers:Nat)
 |defers
 |iter (m:Option Nat) (n:Nat) (pos:Fw)
 |pj (s:ByteArray) (pos:Nat)
 |lQ (es:List ((Value×Value)×Nat)) (clock:Nat)
 |lO (m lP:Nat) (seen:List Nat) (last:Nat)
structure Heap where
 objs:Tr AObj
 grps:Tr (List Nat)
 next:Nat
 lo:Nat
structure Env where
 P:Program
 ty:Tr TI
 fn:Tr Func
 orc:Value→List Value→Heap→Option (Value×Heap)
def Env.of(P:Program):Env:={P,ty:=Tr.Lq (P.types.toList.zipIdx.map fun p=>TI.of P p.2 p.1),fn:=Tr.of P.funcs.toList,orc:=fun _ _ _=>none}
def Heap.empty:Heap:={objs:=Tr.nil,grps:=Tr.nil,next:=0,lo:=0}
def Heap.add(H:Heap)(o:AObj):Heap:=
 forceNat H.next fun n=>(H.objs.set n o).force fun t=>{objs:=t,grps:=H.grps,next:=n+1,lo:=H.lo}
def Heap.setObj(H:Heap)(l:Nat)(o:AObj):Heap:=(H.objs.set l o).force fun t=>{objs:=t,grps:=H.grps,next:=H.next,lo:=H.lo}
def Heap.newRow(H:Heap)(cells:List Value):Heap:=H.add (.row cells none true)
def ptr(r o:Nat):Value:= .pointer (some ⟨r,o,none⟩)
def cut(l:List Value)(o n:Nat):Option (List Value):=
 bif Nat.ble (o+n) l.length then some ((l.drop o).take n)else none
def over(new:List Value):Nat→List Value→List Value
 |0,l=>new++l.drop new.length
 |o+1,x::l=>x::over new o l
 |_+1,[]=>[]
def killMarks(lo:Nat)(t:Tr AObj):List Nat→Option (Tr AObj)
 |[]=>some t
 |k::l=>
  match t.get k with
  |some .defers=>bif Nat.ble lo k then killMarks lo (t.del k) l else none
  |_=>none
def tx(lo:Nat)(t:Tr AObj):List Nat→Option (Tr AObj)
 |[]=>some t
 |k::l=>bif Nat.ble lo k then tx lo (t.del k) l else none
def isCell:Value→Bool
 | .agg _| .tuple _=>false
 |_=>true
def Heap.write(H:Heap)(r o:Nat)(new:List Value):Option Heap:=
 bif !Nat.ble H.lo r|| !new.all isCell then none else
 match H.objs.get r with
 |some (.row cells bH true)=>
  bif !Nat.ble (o+new.length) cells.length then none else
  match bH with
  |none=>(H.objs.set r (.row (over new o cells) none true)).force fun t=>some {objs:=t,grps:=H.grps,next:=H.next,lo:=H.lo}
  |some (g,z)=>
   match H.grps.get g with
   |some aS=>(tx H.lo H.objs aS).bind fun t=>(t.set r (.row (over new o cells) (some (g,z)) true)).force fun t=>(H.grps.set g []).force fun gs=>some {objs:=t,grps:=gs,next:=H.next,lo:=H.lo}
   |none=>none
 |_=>none
def ev(T:Tr Value):Operand→Option Value
 | .tmp t=>T.get t
 | .const v=>bif plainV v then some v else none
 | .global _=>none
 | .func f=>some (.func (.func f) #[] #[])
def evs(T:Tr Value):List Operand→Option (List Value)
 |[]=>some []
 |x::l=>(ev T x).bind fun v=>(evs T l).bind fun vs=>some (v::vs)
def Fy(k:IntKind)(n:Int):Int:=bif leI k.min n&&leI n k.max then n else k.wrap n
def fF(k:IntKind)(n:Int):Option Value:=forceInt (Fy k n) fun n=>some (.int k n)
def mL(a b:ByteArray):Bool:=a.toList==b.toList
def sameKind:IntKind→IntKind→Bool
 | .i8,.i8| .i16,.i16| .i32,.i32| .i64,.i64| .u8,.u8| .u16,.u16| .u32,.u32| .u64,.u64=>true
 |_,_=>false
def intOp(op:BinOp)(k:IntKind)(a b:Int):Option Value:=
 match op with
 | .add=>fF k (a+b)
 | .sub=>fF k (a-b)
 | .mul=>fF k (a*b)
 | .quo=>bif eqI b 0 then none else fF k (a.tdiv b)
 | .rem=>bif eqI b 0 then none else forceInt (a.tmod b) fun n=>some (.int k n)
 | .and=>fF k (BitVec.ofInt k.bits a&&&BitVec.ofInt k.bits b).toNat
 | .or=>fF k (BitVec.ofInt k.bits a|||BitVec.ofInt k.bits b).toNat
 | .xor=>fF k (BitVec.ofInt k.bits a ^^^ BitVec.ofInt k.bits b).toNat
 | .andNot=>fF k (BitVec.ofInt k.bits a&&& ~~~BitVec.ofInt k.bits b).toNat
 | .eql=>some (.bool (eqI a b))
 | .neq=>some (.bool (!eqI a b))
 | .lss=>some (.bool (oC a b))
 | .leq=>some (.bool (leI a b))
 | .gtr=>some (.bool (oC b a))
 | .geq=>some (.bool (leI b a))
 |_=>none
def shiftOp(op:BinOp)(k:IntKind)(a b:Int):Option Value:=
 bif oC b 0 then none else
 match op with
 | .shl=>fF k (a*2^(min b.toNat k.bits))
 | .shr=>forceInt (a.fdiv (2^(min b.toNat k.bits))) fun n=>some (.int k n)
 |_=>none
def strOp(op:BinOp)(a b:ByteArray):Option Value:=
 match op with
 | .add=>bif Nat.ble (a.size+b.size) 1000000000 then some (.string (a++b))else none
 | .eql=>some (.bool (mL a b))
 | .neq=>some (.bool (!mL a b))
 | .lss=>some (.bool (Op.bytesLess a.toList b.toList))
 | .leq=>some (.bool (Op.bytesLess a.toList b.toList||mL a b))
 | .gtr=>some (.bool (!(Op.bytesLess a.toList b.toList||mL a b)))
 | .geq=>some (.bool (!Op.bytesLess a.toList b.toList))
 |_=>none
def Env.size(E:Env)(t:TypeId):Option Nat:=(E.ty.get t).bind fun i=>some i.size
def jj(E:Env)(t:TypeId)(cs:List Value)(off:Nat):Option Value:=
 (E.ty.get t).bind fun i=>bif i.agg then(cut cs off i.size).bind fun l=>some (.agg l.toArray)else cs[off]?
def eqFields(E:Env)(tG:TypeId→Value→Value→Option Bool)(xs ys:List Value):List (Nat×TypeId)→Option Bool
 |[]=>some true
 |(o,t)::fs=>
  (jj E t xs o).bind fun a=>(jj E t ys o).bind fun b=>(tG t a b).bind fun r=>
   match r with
   |true=>eqFields E tG xs ys fs
   |false=>some false
def eqV(E:Env):Nat→TypeId→Value→Value→Option Bool
 |0,_,_,_=>none
 |d+1,t,x,y=>
  (E.ty.get t).bind fun i=>
  match i.desc,x,y with
  | .bool,.bool a,.bool b=>some (a==b)
  | .int _,.int k a,.int k' b=>bif sameKind k k' then some (eqI a b)else none
  | .string,.string a,.string b=>some (mL a b)
  | .pointer _,.pointer none,.pointer b=>some b.isNone
  | .pointer _,.pointer _,.pointer none=>some false
  | .interface _,.nilIface,.iface _ _=>some false
  | .interface _,.iface _ _,.nilIface=>some false
  | .struct _,.agg xs,.agg ys=>bif i.cmp then eqFields E (eqV E d) xs.toList ys.toList i.fs else none
  | .slice _,.slice none _ _,.slice b _ _=>some b.isNone
  | .slice _,.slice _ _ _,.slice none _ _=>some false
  | .map _ _,.map none,.map b=>some b.isNone
  | .map _ _,.map _,.map none=>some false
  | .func _ _ _,.nilFunc,.nilFunc=>some true
  | .func _ _ _,.nilFunc,.func _ _ _=>some false
  | .func _ _ _,.func _ _ _,.nilFunc=>some false
  |_,_,_=>none
def isConst:Operand→Bool
 | .const _=>true
 |_=>false
def binV(E:Env)(op:BinOp)(t:TypeId)(x y:Operand)(a b:Value):Option Value:=
 match a,b with
 | .int k m,.int k' n=>
   match op with
   | .shl=>shiftOp .shl k m n
   | .shr=>shiftOp .shr k m n
   |op=>bif sameKind k k' then intOp op k m n else none
 | .string m,.string n=>strOp op m n
 | .nilIface,.nilIface=>
   bif isConst x||isConst y then
    (E.ty.get t).bind fun i=>
    match i.desc,op with
    | .interface _,.eql=>some (.bool true)
    | .interface _,.neq=>some (.bool false)
    |_,_=>none
   else none
 |a,b=>
  match op with
  | .eql=>(eqV E 100 t a b).bind fun r=>some (.bool r)
  | .neq=>(eqV E 100 t a b).bind fun r=>some (.bool (!r))
  |_=>none
def unV(op:UnOp)(x:Value):Option Value:=
 match op,x with
 | .neg,.int k n=>fF k (0-n)
 | .xor,.int k n=>intOp .xor k (if k.signed then -1 else k.max) n
 | .not,.bool b=>some (.bool (!b))
 |_,_=>none
def fillV(cells:List Value):List (Nat×Nat×Value)→Option (List Value)
 |[]=>some cells
 |(off,size,v)::rest=>
  let new:=v.cells.toList
  bif Nat.beq new.length size&&Nat.ble (off+size) cells.length then fillV (over new off cells) rest else none
def evParts(T:Tr Value)(place:Nat→Option (Nat×Nat)):List (Nat×Operand)→Option (List (Nat×Nat×Value))
 |[]=>some []
 |(i,x)::l=>(place i).bind fun p=>(ev T x).bind fun v=>(evParts T place l).bind fun r=>some ((p.1,p.2,v)::r)
def cj:Value→List Value
 | .agg cs=>cs.toList
 |v=>[v]
def dr(z:List Value):Nat→List Value
 |0=>[]
 |n+1=>z++dr z n
def placesV(E:Env):List Field→Option (List (Nat×Nat))
 |[]=>some []
 |f::fs=>(E.size f.type).bind fun s=>(placesV E fs).bind fun l=>some ((f.offset,s)::l)
def gm(E:Env)(T:Tr Value)(t:TypeId)(parts:List (Nat×Operand)):Option Value:=
 (E.ty.get t).bind fun i=>i.zero.bind fun z=>
  match i.desc with
  | .struct fs=>(placesV E fs.toList).bind fun pl=>(evParts T (fun k=>pl[k]?) parts).bind fun ps=>(fillV (cj z) ps).bind fun l=>some (.agg l.toArray)
  | .array _ e=>(E.size e).bind fun s=>(evParts T (fun k=>some (k*s,s)) parts).bind fun ps=>(fillV (cj z) ps).bind fun l=>some (.agg l.toArray)
  |_=>none
def bounds(len cap:Nat)(lo hi mx:Option Value):Option (Nat×Nat×Nat):=
 (match mx with
  |none=>some cap
  |some (.int _ n)=>to? n cap
  |some _=>none).bind fun m=>
 (match hi with
  |none=>match mx with
   |none=>some len
   |some _=>none
  |some (.int _ n)=>to? n m
  |some _=>none).bind fun h=>
 (match lo with
  |none=>some 0
  |some (.int _ n)=>to? n h
  |some _=>none).bind fun l=>some (l,h,m)
def evO(T:Tr Value):Option Operand→Option (Option Value)
 |none=>some none
 |some x=>(ev T x).bind fun v=>some (some v)
def sliceV(E:Env)(H:Heap)(t:TypeId)(x:Value)(lo hi mx:Option Value):Option Value:=
 (E.ty.get t).bind fun i=>
 match i.desc,x with
 | .string,.string s=>
   match mx with
   |some _=>none
   |none=>(bounds s.size s.size lo hi none).bind fun b=>some (.string (s.extract b.1 b.2.1))
 | .slice e,.slice (some ⟨r,o,none⟩) len cap=>
   bif !Nat.ble len cap then none else
   (bounds len cap lo hi mx).bind fun b=>(E.size e).bind fun size=>
    match H.objs.get r with
    |some (.row _ none _)=>some (.slice (some ⟨r,bif Nat.beq b.2.2 b.1 then o else o+b.1*size,none⟩) (b.2.1-b.1) (b.2.2-b.1))
    |some (.row _ (some (_,z)) _)=>
     bif Nat.beq z size then some (.slice (some ⟨r,bif mx.isSome&&Nat.beq b.2.2 b.1 then o else o+b.1*size,none⟩) (b.2.1-b.1) (b.2.2-b.1))else none
    |_=>none
 | .slice e,.slice none len cap=>bif !Nat.ble len cap then none else(bounds len cap lo hi mx).bind fun b=>(E.size e).bind fun _=>some (.slice none (b.2.1-b.1) (b.2.2-b.1))
 | .array n e,.pointer (some ⟨r,o,none⟩)=>
   (bounds n n lo hi mx).bind fun b=>(E.size e).bind fun size=>
    match H.objs.get r with
    |some (.row _ none _)=>some (.slice (some ⟨r,bif Nat.beq b.2.2 b.1 then o else o+b.1*size,none⟩) (b.2.1-b.1) (b.2.2-b.1))
    |_=>none
 |_,_=>none
def fieldAddrV(E:Env)(s:TypeId)(x:Value)(f:Nat):Option Value:=
 (E.ty.get s).bind fun i=>
 match i.desc,x with
 | .struct fs,.pointer (some ⟨r,o,none⟩)=>
   (fs.toList[f]?).bind fun f=>(E.size f.type).bind fun n=>bif Nat.beq n 0 then none else some (ptr r (o+f.offset))
 |_,_=>none
def indexAddrV(E:Env)(t:TypeId)(x ix:Value):Option Value:=
 (E.ty.get t).bind fun i=>
 match i.desc,x,ix with
 | .slice e,.slice (some ⟨r,o,none⟩) len _,.int _ n=>(at? n len).bind fun n=>(E.size e).bind fun s=>some (ptr r (o+n*s))
 | .array len e,.pointer (some ⟨r,o,none⟩),.int _ n=>(at? n len).bind fun n=>(E.size e).bind fun s=>some (ptr r (o+n*s))
 |_,_,_=>none
def fieldV(E:Env)(t:TypeId)(x:Value)(f:Nat):Option Value:=
 (E.ty.get t).bind fun i=>
 match i.desc,x with
 | .struct fs,.agg cs=>(fs.toList[f]?).bind fun f=>jj E f.type cs.toList f.offset
 |_,_=>none
def indexV(E:Env)(t:TypeId)(x ix:Value):Option Value:=
 (E.ty.get t).bind fun i=>
 match i.desc,x,ix with
 | .array len e,.agg cs,.int _ n=>(at? n len).bind fun n=>(E.size e).bind fun s=>jj E e cs.toList (n*s)
 | .string,.string s,.int _ n=>(at? n s.size).bind fun n=>(s.data.toList[n]?).bind fun b=>some (.int .u8 b.toNat)
 |_,_,_=>none
def minV:Value→List Value→Option Value
 |x,[]=>some x
 | .int k a,.int _ b::l=>minV (.int k (bif oC b a then b else a)) l
 |_,_=>none
def xP:Value→List Value→Option Value
 |x,[]=>some x
 | .int k a,.int _ b::l=>xP (.int k (bif oC a b then b else a)) l
 |_,_=>none
def loadV(E:Env)(H:Heap)(t:TypeId)(x:Value):Option Value:=
 match x with
 | .pointer (some ⟨r,o,none⟩)=>
   match H.objs.get r with
   |some (.row cells _ _)=>(E.ty.get t).bind fun i=>bif i.agg then(cut cells o i.size).bind fun l=>some (.agg l.toArray)else cells[o]?
   |_=>none
 |_=>none
def tH(E:Env)(H:Heap)(t:TypeId)(x v:Value):Option Heap:=
 match x with
 | .pointer (some ⟨r,o,none⟩)=>
   (E.size t).bind fun n=>let l:=cj v;bif Nat.beq l.length n then H.write r o l else none
 |_=>none
def cellsOf(H:Heap)(n:Nat):Value→Option (List Value)
 | .slice none _ _=>bif Nat.beq n 0 then some []else none
 | .slice (some ⟨r,o,none⟩) _ _=>
   match H.objs.get r with
   |some (.row cells _ _)=>cut cells o n
   |_=>none
 |_=>none
def Heap.dx(H:Heap)(z:Nat)(cells:List Value):Heap:=
 forceNat H.next fun n=>(H.objs.set n (.row cells (some (n,z)) true)).force fun t=>(H.grps.set n []).force fun gs=>{objs:=t,grps:=gs,next:=n+1,lo:=H.lo}
def Heap.grow(H:Heap)(r:Nat)(cells:List Value)(g z:Nat)(new:List Value):Option Heap:=
 match H.grps.get g with
 |none=>none
 |some aS=>forceNat H.next fun n=>((H.objs.set r (.row cells (some (g,z)) false)).set n (.row new (some (g,z)) true)).force fun t=>
   (H.grps.set g (r::aS)).force fun gs=>some {objs:=t,grps:=gs,next:=n+1,lo:=H.lo}
def ti(i:TI)(dJ:Nat):Bool:=
 match i.zero with
 |some z=> !Nat.beq i.size 0&&Nat.ble (dJ*i.bytes) 10000000000&&Nat.ble dJ 1000000000&&Nat.beq (cj z).length i.size
 |none=>false
def appendV(E:Env)(H:Heap)(e:TypeId)(s:Value)(k:Nat)(new:List Value):Option (Value×Heap):=
 (E.ty.get e).bind fun i=>
 match s with
 | .slice none len cap=>
   bif Nat.ble (len+k) cap then some (.slice none (len+k) cap,H)
   else bif !ti i (len+k)|| !Nat.beq len 0 then none
   else some (.slice (some ⟨H.next,0,none⟩) (len+k) (len+k),H.dx i.size new)
 | .slice (some ⟨r,o,none⟩) len cap=>
   bif Nat.ble (len+k) cap then
    bif Nat.beq k 0 then some (.slice (some ⟨r,o,none⟩) (len+k) cap,H)
    else(H.write r (o+len*i.size) new).bind fun H=>some (.slice (some ⟨r,o,none⟩) (len+k) cap,H)
   else bif !ti i (len+k)then none
   else
    match H.objs.get r with
    |some (.row cells none _)=>
     (cut cells o (len*i.size)).bind fun l=>some (.slice (some ⟨H.next,0,none⟩) (len+k) (len+k),H.dx i.size (l++new))
    |some (.row cells (some (g,z)) true)=>
     bif Nat.beq (o+len*i.size) cells.length&&Nat.ble H.lo r&&Nat.beq z i.size&&new.all isCell then
      (cut cells o (len*i.size)).bind fun l=>(H.grow r cells g z (l++new)).bind fun H'=>some (.slice (some ⟨H.next,0,none⟩) (len+k) (len+k),H')
     else none
    |_=>none
 |_=>none
def CB(E:Env)(e:TypeId)(n:Nat):Option (List Value):=
 (E.ty.get e).bind fun i=>i.zero.bind fun z=>some (dr (cj z) n)
def makeSliceV(E:Env)(H:Heap)(t:TypeId)(len cap:Value):Option (Value×Heap):=
 (E.ty.get t).bind fun i=>
 match i.desc,len,cap with
 | .slice e,.int _ l,.int _ c=>
   match l,c with
   | .ofNat l,.ofNat c=>
     (E.ty.get e).bind fun j=>j.zero.bind fun z=>
      bif Nat.ble l c&&Nat.ble c 1000000000&&Nat.ble (c*j.bytes) 10000000000&& !Nat.beq j.size 0&&Nat.beq (cj z).length j.size
      then some (.slice (some ⟨H.next,0,none⟩) l c,H.newRow (dr (cj z) c))else none
   |_,_=>none
 |_,_,_=>none
def plainKey(E:Env)(t:TypeId)(k:Value):Bool:=
 match E.ty.get t with
 |some i=>
  match i.desc,k with
  | .int _,.int _ _=>true
  | .string,.string _=>true
  | .bool,.bool _=>true
  |_,_=>false
 |none=>false
def keyEq:Value→Value→Option Bool
 | .int k a,.int k' b=>bif sameKind k k' then some (eqI a b)else none
 | .string a,.string b=>some (mL a b)
 | .bool a,.bool b=>some (a==b)
 |_,_=>none
def findV(k:Value):List (Value×Value)→Nat→Option (Option (Nat×Value))
 |[],_=>some none
 |e::es,i=>(keyEq k e.1).bind fun b=>
  match b with
  |true=>some (some (i,e.2))
  |false=>findV k es (i+1)
def lookupV(E:Env)(H:Heap)(t:TypeId)(m k:Value)(ok:Bool):Option Value:=
 (E.ty.get t).bind fun i=>
 match i.desc with
 | .map kt et=>
   bif !plainKey E kt k then none else
   (match m with
    | .map none=>some []
    | .map (some r)=>match H.objs.get r with
      |some (.map es)=>some es
      |some (.lQ es _)=>some (es.map Prod.fst)
      |_=>none
    |_=>none).bind fun es=>(findV k es 0).bind fun f=>
     match f with
     |some (_,v)=>some (bif ok then .tuple #[v,.bool true]else v)
     |none=>(E.ty.get et).bind fun j=>j.zero.bind fun z=>some (bif ok then .tuple #[z,.bool false]else z)
 |_=>none
def setVal(v:Value):List (Value×Value)→Nat→List (Value×Value)
 |[],_=>[]
 |e::es,0=>(e.1,v)::es
 |e::es,i+1=>e::setVal v es i
def Heap.po(H:Heap)(r:Nat)(es:List (Value×Value)):Option Heap:=
 bif !Nat.ble H.lo r then none else(H.objs.set r (.map es)).force fun t=>some {objs:=t,grps:=H.grps,next:=H.next,lo:=H.lo}
def mapUpdateV(E:Env)(H:Heap)(t:TypeId)(m k v:Value):Option Heap:=
 (E.ty.get t).bind fun i=>
 match i.desc,m with
 | .map kt _,.map (some r)=>
   bif !plainKey E kt k then none else
   match H.objs.get r with
   |some (.map es)=>(findV k es 0).bind fun f=>
    match f with
    |some (i,_)=>H.po r (setVal v es i)
    |none=>H.po r (es++[(k,v)])
   |_=>none
 |_,_=>none
def tI:List (Value×Value)→Nat→List ((Value×Value)×Nat)
 |[],_=>[]
 |e::l,i=>(e,i)::tI l (i+1)
def mapOf(H:Heap)(r:Nat):Option (List ((Value×Value)×Nat)×Nat):=
 match H.objs.get r with
 |some (.map es)=>some (tI es 0,es.length)
 |some (.lQ es c)=>some (es,c)
 |_=>none
def Heap.Fz(H:Heap)(r:Nat)(es:List ((Value×Value)×Nat))(c:Nat):Option Heap:=
 bif !Nat.ble H.lo r then none else(H.objs.set r (.lQ es c)).force fun t=>some {objs:=t,grps:=H.grps,next:=H.next,lo:=H.lo}
def zH(E:Env)(H:Heap)(t:TypeId)(m k:Value):Option Heap:=
 (E.ty.get t).bind fun i=>
 match i.desc,m with
 | .map kt _,.map (some r)=>
   bif !plainKey E kt k then none else
   (mapOf H r).bind fun p=>(findV k (p.1.map Prod.fst) 0).bind fun f=>
    match f with
    |some (j,_)=>H.Fz r (p.1.eraseIdx j) p.2
    |none=>some H
 |_,_=>none
def entriesOf(H:Heap):Option Nat→Option (List (Value×Value))
 |none=>some []
 |some m=>match H.objs.get m with
  |some (.map es)=>some es
  |_=>none
def entryV(H:Heap)(it:Value):Option Value:=
 match it with
 | .pointer (some ⟨r,0,none⟩)=>
   match H.objs.get r with
   |some (.iter m n (.told i))=>(entriesOf H m).bind fun es=>bif Nat.beq es.length n then(es[i]?).bind fun e=>some (.tuple #[e.1,e.2])else none
   |some (.lO m _ seen last)=>(match H.objs.get m with
    |some (.lQ es c)=>bif Nat.beq c last then(seen.getLast?).bind fun s=>(es.find? fun e=>Nat.beq e.2 s).bind fun e=>some (.tuple #[e.1.1,e.1.2])else none
    |_=>none)
   |_=>none
 |_=>none
def gOf(H:Heap):Option Nat→Option (Nat×Nat)
 |some r=>match H.objs.get r with
  |some (.lQ _ c)=>some (r,c)
  |_=>none
 |none=>none
def qo(n:Nat):List Nat→Bool
 |[]=>false
 |x::l=>Nat.beq x n||qo n l
def nextG(H:Heap)(it:Value):Option (Value×Heap):=
 match it with
 | .pointer (some ⟨r,0,none⟩)=>
   match H.objs.get r with
   |some (.lO m lP seen last)=>bif !Nat.ble H.lo r then none else
    match H.objs.get m with
    |some (.lQ es c)=>
     bif !seen.isEmpty&&(!es.isEmpty&&es.all fun e=>Nat.ble last e.2)then none else
     match es.filter fun e=> !qo e.2 seen with
     |[]=>some (.tuple #[.bool false],H)
     |[e]=>bif Nat.blt e.2 lP then some (.tuple #[.bool true,e.1.1,e.1.2],H.setObj r (.lO m lP (seen++[e.2]) c))else none
     |_=>none
    |_=>none
   |_=>none
 |_=>none
def rangeO(H:Heap)(d:TypeDesc)(x:Value):Option AObj:=
 match d,x with
 | .map _ _,.map m=>(match gOf H m with
   |some p=>some (.lO p.1 p.2 [] p.2)
   |none=>(entriesOf H m).bind fun es=>some (.iter m es.length .start))
 | .string,.string s=>some (.pj s 0)
 |_,_=>none
def nextC(s:ByteArray)(pos:Nat):Option (Nat×Nat):=
 match s.data.toList[pos]? with
 |none=>none
 |some b=>bif Nat.blt b.toNat 128 then some (b.toNat,pos+1)else some ((Utf8.decode s pos).1,pos+(Utf8.decode s pos).2)
def nextV(H:Heap)(it:Value):Option (Value×Heap):=
 match it with
 | .pointer (some ⟨r,0,none⟩)=>
   match H.objs.get r with
   |some (.pj s pos)=>bif !Nat.ble H.lo r then none else
    match nextC s pos with
    |none=>some (.tuple #[.bool false],H)
    |some c=>forceNat c.1 fun a=>forceNat c.2 fun p=>some (.tuple #[.bool true,.int .i64 pos,.int .i32 a],H.setObj r (.pj s p))
   |_=>none
 |_=>none
def builtinV(E:Env)(H:Heap)(b:Builtin)(ts:List TypeId)(args:List Value):Option (Value×Heap):=
 match b,ts,args with
 | .len,t::_,x::_=>
   (E.ty.get t).bind fun i=>
   match i.desc,x with
   | .string,.string s=>some (.int .i64 s.size,H)
   | .array n _,_=>some (.int .i64 n,H)
   | .slice _,.slice _ n _=>some (.int .i64 n,H)
   | .map _ _,.map none=>some (.int .i64 0,H)
   | .map _ _,.map (some r)=>match H.objs.get r with
     |some (.map es)=>some (.int .i64 es.length,H)
     |_=>none
   |_,_=>none
 | .min,_,x::l=>(minV x l).bind fun v=>some (v,H)
 | .max,_,x::l=>(xP x l).bind fun v=>some (v,H)
 | .append,t::t'::_,s::x::_=>
   (E.ty.get t).bind fun i=>(E.ty.get t').bind fun i'=>
   match i.desc with
   | .slice e=>
     match i'.desc,x with
     | .int _,.int _ n=>(to? n 1000000000).bind fun n=>(CB E e n).bind fun l=>(E.ty.get e).bind fun j=>bif Nat.beq l.length (n*j.size)&&Nat.ble (n*j.bytes) 10000000000 then appendV E H e s n l else none
     | .slice _,.slice _ n _=>(E.size e).bind fun z=>(cellsOf H (n*z) x).bind fun l=>appendV E H e s n l
     |_,_=>none
   |_=>none
 | .copy,t::_,d::x::_=>
   (E.ty.get t).bind fun i=>
   match i.desc,d,x with
   | .slice e,.slice base dl _,.slice _ n _=>(E.size e).bind fun z=>(cellsOf H (Nat.min n dl*z) x).bind fun l=>
     match base with
     |none=>some (.int .i64 (Nat.min n dl),H)
     |some ⟨r,o,none⟩=>(H.write r o l).bind fun H=>some (.int .i64 (Nat.min n dl),H)
     |_=>none
   |_,_,_=>none
 | .delete,t::_,x::k::_=>(zH E H t x k).bind fun H=>some (.tuple #[],H)
 | .clear,t::_,x::_=>
   (E.ty.get t).bind fun i=>
   match i.desc,x with
   | .slice _,.slice none _ _=>some (.tuple #[],H)
   | .slice e,.slice (some ⟨r,o,none⟩) n _=>(CB E e n).bind fun l=>(H.write r o l).bind fun H=>some (.tuple #[],H)
   |_,_=>none
 |_,_,_=>none
def convV(E:Env)(src dst:TypeId)(x:Value):Option Value:=
 (E.ty.get src).bind fun i=>(E.ty.get dst).bind fun j=>
 match i.desc,j.desc,x with
 |_,.int k,.int _ n=>fF k n
 |_,.string,.string s=>some (.string s)
 |_,_,_=>none
def bytesOf:List Value→Option (List Int)
 |[]=>some []
 | .int .u8 n::l=>(bytesOf l).bind fun r=>some (n::r)
 |_=>none
def Lg(ns:List Int):ByteArray:=ns.foldl (fun r n=>r.push (UInt8.ofNat n.toNat)) ByteArray.empty
def bytesStrV(E:Env)(H:Heap)(s d:TypeId)(x:Value):Option Value:=
 (E.ty.get s).bind fun i=>(E.ty.get d).bind fun j=>
 match i.desc,j.desc,x with
 | .slice e,.string,.slice (some a) n c=>(E.ty.get e).bind fun k=>
   match k.desc with
   | .int .u8=>(cellsOf H n (.slice (some a) n c)).bind fun l=>(bytesOf l).bind fun ns=>some (.string (Lg ns))
   |_=>none
 |_,_,_=>none
def nM(E:Env)(H:Heap)(s d:TypeId)(x:Value):Option Value:=bif Nat.beq s BT then bytesStrV E H s d x else convV E s d x
structure Fr where
 T:Tr Value
 size:Nat
 marks:List Nat
 round:Option Nat
inductive Ex where
 |normal
 |exit (id:Nat)
 |ret
abbrev dc:=Value→List Value→Heap→Option (Value×Heap)
def methodOf(E:Env)(x:Value)(name:String):Option (FuncId×Value):=
 match x with
 | .iface t v=>
   (E.P.info? t).bind fun i=>(i.methods.find? (·.name==name)).bind fun m=>
    match m.path.toList,m.func with
    |[],some (f,pr)=>(E.ty.get t).bind fun j=>
     match j.desc,pr with
     | .pointer _,true=>some (f,v)
     | .pointer _,false=>none
     |_,false=>some (f,v)
     |_,true=>none
    |_,_=>none
 |_=>none
def target(E:Env)(f:Value)(args:List Value):Option (Fn×List Value):=
 match f with
 | .func (.func g) first captured=>some (.func g,first.toList++args++captured.toList)
 | .func (.yield l) first _=>some (.yield l,first.toList++args)
 | .func (.via t path g p) first _=>
   bif path.toList.isEmpty&&p&&(match E.ty.get t with|some i=>(match i.desc with| .pointer _=>true|_=>false)|none=>false)then(match first.toList++args with|[]=>none|l=>some (.func g,l))else none
 | .func (.method name) first _=>match first.toList++args with
   |[]=>none
   |x::l=>(methodOf E x name).bind fun m=>some (.func m.1,m.2::l)
 |_=>none
def exOp(E:Env)(call:dc)(T:Tr Value)(o:Oper)(H:Heap):Option (Value×Heap):=
 match o.op with
 | .move x=>(ev T x).bind fun v=>some (v,H)
 | .assign x=>(ev T x).bind fun v=>some (v,H)
 | .pick c a b=>(ev T c).bind fun c=>
   match c with
   | .bool true=>(ev T a).bind fun v=>some (v,H)
   | .bool false=>(ev T b).bind fun v=>some (v,H)
   |_=>none
 | .alloc t=>(E.ty.get t).bind fun i=>i.zero.bind fun z=>some (ptr H.next 0,H.newRow (cj z))
 | .box _ x=>(ev T x).bind fun v=>some (ptr H.next 0,H.newRow (cj v))
 | .build t parts=>(gm E T t parts.toList).bind fun v=>some (v,H)
 | .buildSlice t len parts=>
   (E.ty.get t).bind fun i=>
   match i.desc with
   | .slice e=>(E.ty.get e).bind fun j=>j.zero.bind fun z=>
     bif !Nat.beq (cj z).length j.size|| !Nat.ble (len*j.size) 10000000||Nat.beq j.size 0 then none else
     (evParts T (fun k=>some (k*j.size,j.size)) parts.toList).bind fun ps=>(fillV (dr (cj z) len) ps).bind fun l=>
      some (.slice (some ⟨H.next,0,none⟩) len len,H.newRow l)
   |_=>none
 | .load t a=>(ev T a).bind fun a=>(loadV E H t a).bind fun v=>some (v,H)
 | .store t a x=>(ev T a).bind fun a=>(ev T x).bind fun x=>(tH E H t a x).bind fun H=>some (undef,H)
 | .nilCheck x=>(ev T x).bind fun v=>
   match v with
   | .pointer (some _)=>some (v,H)
   | .func (.func _) _ _=>some (v,H)
   | .func (.yield _) _ _=>some (v,H)
   | .func (.via ..) _ _=>some (v,H)
   | .func (.method name) first _=>(match first.toList with
     |x::_=>(methodOf E x name).bind fun _=>some (v,H)
     |[]=>none)
   | .iface _ _=>some (v,H)
   |_=>none
 | .binOp op t x y _=>(ev T x).bind fun a=>(ev T y).bind fun b=>(binV E op t x y a b).bind fun v=>some (v,H)
 | .unOp op _ x=>(ev T x).bind fun a=>(unV op a).bind fun v=>some (v,H)
 | .convert s d x=>(ev T x).bind fun a=>(nM E H s d a).bind fun v=>some (v,H)
 | .makeInterface t x=>(ev T x).bind fun a=>(E.ty.get t).bind fun i=>
   match i.desc with
   | .interface _=>none
   | .invalid=>none
   |_=>some (.iface t a,H)
 | .makeFunc fn first captured=>
   match fn with
   | .yield _=>none
   |_=>(evs T first.toList).bind fun fs=>(evs T captured.toList).bind fun cs=>some (.func fn fs.toArray cs.toArray,H)
 | .makeMap _ none=>some (.map (some H.next),H.add (.map []))
 | .makeSlice t l c=>(ev T l).bind fun l=>(ev T c).bind fun c=>makeSliceV E H t l c
 | .slice t x lo hi mx=>(ev T x).bind fun x=>(evO T lo).bind fun lo=>(evO T hi).bind fun hi=>(evO T mx).bind fun mx=>(sliceV E H t x lo hi mx).bind fun v=>some (v,H)
 | .fieldAddr s x f=>(ev T x).bind fun x=>(fieldAddrV E s x f).bind fun v=>some (v,H)
 | .field t x f=>(ev T x).bind fun x=>(fieldV E t x f).bind fun v=>some (v,H)
 | .indexAddr t x i=>(ev T x).bind fun x=>(ev T i).bind fun i=>(indexAddrV E t x i).bind fun v=>some (v,H)
 | .index t x i=>(ev T x).bind fun x=>(ev T i).bind fun i=>(indexV E t x i).bind fun v=>some (v,H)
 | .lookup t x i ok=>(ev T x).bind fun x=>(ev T i).bind fun i=>(lookupV E H t x i ok).bind fun v=>some (v,H)
 | .mapUpdate t m k x=>(ev T m).bind fun m=>(ev T k).bind fun k=>(ev T x).bind fun x=>(mapUpdateV E H t m k x).bind fun H=>some (undef,H)
 | .range t x=>(ev T x).bind fun x=>(E.ty.get t).bind fun i=>(rangeO H i.desc x).bind fun o=>some (ptr H.next 0,H.add o)
 | .next it true=>(ev T it).bind fun it=>nextV H it
 | .next it false=>(ev T it).bind fun it=>nextG H it
 | .entry it=>(ev T it).bind fun it=>(entryV H it).bind fun v=>some (v,H)
 | .extract t ix=>(ev T t).bind fun t=>
   match t with
   | .tuple vs=>(vs.toList[ix]?).bind fun v=>some (v,H)
   |_=>none
 | .call c=>
   (evs T c.args.toList).bind fun args=>
   match c.callee with
   | .builtin b=>builtinV E H b c.argTypes.toList args
   | .value f=>(ev T f).bind fun f=>call f args H
   | .invoke x name=>(ev T x).bind fun x=>(methodOf E x name).bind fun m=>call (.func (.func m.1) #[] #[]) (m.2::args) H
 |_=>none
def wantedA(T:Tr Value)(ops:List Oper)(o:Oper):Option Bool:=
 match o.guard with
 |none=>some true
 |some (j,want)=>
  match(ops[j]?).bind (·.dst)with
  |none=>none
  |some d=>match T.get d with
   |some (.bool b)=>some (b==want)
   |some (.tuple _)=>some false
   |_=>none
def gW(size:Nat)(T:Tr Value)(dst:Option Tmp)(v:Value):Option (Tr Value):=
 match dst with
 |none=>some T
 |some d=>bif Nat.blt d size then(T.set d v).force fun t=>some t else none
inductive Kind where
 |pure|alloc|load|store|call
def kindOf:Op→Kind
 | .alloc .. | .box .. | .buildSlice .. | .makeSlice .. | .makeMap .. => .alloc
 | .load .. | .lookup .. | .slice .. => .load
 | .store .. => .store
 | .mapUpdate .. | .range .. | .entry .. | .next .. => .call
 | .convert s _ _=>bif Nat.beq s BT then .call else .pure
 | .call c=>match c.callee with
   | .builtin .len=> .load
   | .builtin .min| .builtin .max=> .pure
   |_=> .call
 |_=> .pure
structure Info where
 grow:Bool
 apart:List Op
 cz:List (TypeId×Tmp×Tmp)
def isLoad:Kind→Bool
 | .load=>true
 |_=>false
def tmpsOf:List Operand→List Tmp
 |[]=>[]
 | .tmp t::l=>t::tmpsOf l
 |_::l=>tmpsOf l
def Ls(ops:List Oper)(o:Oper):Option Tmp:=
 match o.guard with
 |none=>none
 |some (j,_)=>(ops[j]?).bind (·.dst)
def looksOf(ops:List Oper)(o:Oper):List Tmp:=
 match Ls ops o with
 |some d=>d::tmpsOf o.op.operands.toList
 |none=>tmpsOf o.op.operands.toList
def ordered(b:List Nat)(i j:Nat):Bool:=(b.getD i 0).testBit j||(b.getD j 0).testBit i
def mM(o:Oper)(t:Tmp):Bool:=
 match o.dst with
 |some d=>Nat.beq d t
 |none=>false
def tJ(m k:Nat):Bool:=Nat.beq (Nat.land 1 (Nat.shiftRight m k)) 1
def maskT:List Tmp→Nat
 |[]=>0
 |x::l=>Nat.lor (Nat.shiftLeft 1 x) (maskT l)
def tmpsOk(ns:Nat)(b:List Nat)(i:Nat):List Oper→Nat→Bool
 |[],_=>true
 |p::l,n=>
  (match p.dst with
   |some d=> !tJ ns d||Nat.beq n i||ordered b i n
   |none=>true)&&tmpsOk ns b i l (n+1)
def effOk(store:Bool)(b:List Nat)(i:Nat):List Oper→Nat→Bool
 |[],_=>true
 |p::l,n=>
  (Nat.beq n i||ordered b i n||(match kindOf p.op with
   | .pure=>true
   | .alloc=>Nat.blt i n
   | .load=> !store||(Nat.blt n i&&(match p.op with
     | .load _ (.tmp t)=> !mM p t&&l.all fun q=> !mM q t
     | .slice _ (.tmp t) _ _ _=> !mM p t&&l.all fun q=> !mM q t
     |_=>false))
   | .store=>false
   | .call=>false))&&effOk store b i l (n+1)
def nO(b:List Nat)(i:Nat):List Oper→Nat→List Op
 |[],_=>[]
 |p::l,n=>bif Nat.beq n i||ordered b i n|| !isLoad (kindOf p.op)then nO b i l (n+1)else p.op::nO b i l (n+1)
def edgesOk(n:Nat)(i:Nat):List Edge→Bool
 |[]=>true
 |e::l=>(match e.ground with
  | .gcOnly _=>Nat.blt e.on n
  |_=>Nat.blt e.on i)&&edgesOk n i l
def keepsOf(b:List Nat)(i:Nat):List Oper→Nat→Option (List (TypeId×Tmp×Tmp))
 |[],_=>some []
 |p::l,n=>bif Nat.beq n i||ordered b i n|| !isLoad (kindOf p.op)then keepsOf b i l (n+1)else
  match p.op,p.dst with
  | .load ty (.tmp t),some d=>bif Nat.blt n i&& !mM p t&&(l.all fun q=> !mM q t&& !mM q d)then(keepsOf b i l (n+1)).bind fun r=>some ((ty,t,d)::r)else none
  |_,_=>none
def Td:Nat→Nat→Bool
 |8,4=>true
 |9,4=>true
 |10,3=>true
 |10,7=>true
 |_,_=>false
def FA(ops:List Oper)(b:List Nat)(n i:Nat):Option (List (TypeId×Tmp×Tmp)):=bif Td n i then keepsOf b i ops 0 else none
def uX:Nat→Nat→Bool
 |35,9=>true
 |35,19=>true
 |22,8=>true
 |_,_=>false
def appOf:Op→Option (List Operand)
 | .call c=>match c.callee with
   | .builtin .append=>some c.args.toList
   |_=>none
 |_=>none
def lateOk(b:List Nat)(i:Nat):List Oper→Nat→Bool
 |[],_=>true
 |p::l,n=>(Nat.beq n i||ordered b i n|| !isLoad (kindOf p.op)||(Nat.blt i n&&(match p.op with
  | .load _ _=>true
  |_=>false)))&&lateOk b i l (n+1)
def oD(ops:List Oper)(b:List Nat)(n i:Nat)(o:Oper):Bool:=uX n i&&(appOf o.op).isSome&&lateOk b i ops 0
def rI(ops:List Oper)(b:List Nat)(n i:Nat):List Oper→Nat→List Op
 |[],_=>[]
 |p::l,k=>bif Nat.blt k i&&uX n k&&oD ops b n k p&& !ordered b k i then p.op::rI ops b n i l (k+1)else rI ops b n i l (k+1)
def infoAt(ops:List Oper)(b:List Nat)(n i:Nat)(o:Oper):Option Info:=
 bif edgesOk n i o.after.toList&&tmpsOk (maskT ((match o.dst with|some d=>[d]|none=>[])++looksOf ops o)) b i ops 0 then
  match kindOf o.op with
  | .store=>bif effOk true b i ops 0 then some {grow:=false,apart:=nO b i ops 0,cz:=[]}else none
  | .call=>bif effOk false b i ops 0 then(match FA ops b n i with
    |some ks=>some {grow:=false,apart:=[],cz:=ks}
    |none=>bif oD ops b n i o then some {grow:=false,apart:=nO b i ops 0,cz:=[]}else some {grow:= !(nO b i ops 0).isEmpty,apart:=[],cz:=[]})else none
  | .load=>some {grow:=false,apart:=rI ops b n i ops 0,cz:=[]}
  |_=>some {grow:=false,apart:=[],cz:=[]}
 else none
def uY(ops:List Oper)(b:List Nat)(n:Nat):List Oper→Nat→Option (List Info)
 |[],_=>some []
 |o::l,i=>(infoAt ops b n i o).bind fun x=>(uY ops b n l (i+1)).bind fun r=>some (x::r)
def bindsGc(e:Edge):Bool:=
 match e.ground with
 | .textOnly _=>false
 |_=>true
def zI(m:Nat):List Edge→Bool
 |[]=>true
 |e::l=>(!bindsGc e||tJ m e.on)&&zI m l
def gcPass:List Oper→Nat→Nat→Nat
 |[],_,m=>m
 |o::l,i,m=>bif tJ m i then gcPass l (i+1) m else bif zI m o.after.toList then forceNat (Nat.lor m (Nat.shiftLeft 1 i)) fun m=>gcPass l (i+1) m else gcPass l (i+1) m
def gcOk(ops:List Oper)(n:Nat):Nat→Nat→Bool
 |0,_=>false
 |k+1,m=>forceNat (gcPass ops 0 m) fun m=>bif Nat.beq m (Nat.sub (Nat.shiftLeft 1 n) 1)then true else gcOk ops n k m
def xQ(ops:Array Oper):Option (List Info):=
 bif gcOk ops.toList ops.size 20 0 then uY ops.toList (Region.before ops).toList ops.size ops.toList 0 else none
def footOf(E:Env)(T:Tr Value):Op→Option (Nat×Nat×Nat)
 | .load t a=>(ev T a).bind fun a=>(E.ty.get t).bind fun i=>
   match a with
   | .pointer (some ⟨r,o,none⟩)=>some (r,o,bif i.agg then i.size else 1)
   |_=>none
 | .slice _ x _ _ _=>(ev T x).bind fun a=>
   match a with
   | .slice (some ⟨r,_,none⟩) _ _=>some (r,0,0)
   | .pointer (some ⟨r,_,none⟩)=>some (r,0,0)
   |_=>none
 | .store t a _=>(ev T a).bind fun a=>(E.size t).bind fun n=>
   match a with
   | .pointer (some ⟨r,o,none⟩)=>some (r,o,n)
   |_=>none
 |_=>none
def apartFrom(E:Env)(T:Tr Value)(H:Heap)(r o n:Nat):List Op→Bool
 |[]=>true
 |p::l=>
  (match footOf E T p with
   |some (r',o',n')=>bif Nat.beq r r' then Nat.ble (o+n) o'||Nat.ble (o'+n') o else(H.objs.get r').isSome
   |none=>true)&&apartFrom E T H r o n l
def lateBase(T:Tr Value)(H:Heap):List Operand→Bool
 |a::_=>(match ev T a with
  |some (.slice none _ _)=>true
  |some (.slice (some ⟨r,_,none⟩) _ _)=>(match H.objs.get r with
   |some (.row _ (some _) _)=>true
   |_=>false)
  |_=>false)
 |[]=>false
def storeApart(E:Env)(T:Tr Value)(H:Heap)(o:Op):List Op→Bool
 |[]=>true
 |l=>match appOf o with
  |some args=>lateBase T H args
  |none=>match footOf E T o with
   |some (r,k,n)=>(match H.objs.get r with
    |some (.row _ none _)=>apartFrom E T H r k n l
    |_=>false)
   |none=>false
def same1:Value→Value→Bool
 | .bool true,.bool true=>true
 | .bool false,.bool false=>true
 | .int k a,.int k' b=>sameKind k k'&&eqI a b
 | .string a,.string b=>mL a b
 | .pointer none,.pointer none=>true
 | .pointer (some ⟨r,o,none⟩),.pointer (some ⟨r',o',none⟩)=>Nat.beq r r'&&Nat.beq o o'
 | .slice none l c,.slice none l' c'=>Nat.beq l l'&&Nat.beq c c'
 | .slice (some ⟨r,o,none⟩) l c,.slice (some ⟨r',o',none⟩) l' c'=>Nat.beq r r'&&Nat.beq o o'&&Nat.beq l l'&&Nat.beq c c'
 | .map none,.map none=>true
 | .map (some r),.map (some r')=>Nat.beq r r'
 | .nilFunc,.nilFunc=>true
 | .nilIface,.nilIface=>true
 |_,_=>false
def sameL:List Value→List Value→Bool
 |[],[]=>true
 |x::l,y::r=>same1 x y&&sameL l r
 |_,_=>false
def sameV:Value→Value→Bool
 | .agg x,.agg y=>sameL x.toList y.toList
 |x,y=>same1 x y
def keepOk(E:Env)(T:Tr Value)(H':Heap):List (TypeId×Tmp×Tmp)→Bool
 |[]=>true
 |(ty,t,d)::l=>
  (match T.get t with
   |some a=>(match T.get d with
    |some u=>(match loadV E H' ty a with
     |some u'=>sameV u u'
     |none=>false)
    |none=>false)
   |none=>false)&&keepOk E T H' l
def CC{β:Type}(H:Heap)(f:Heap→β):β:=
 H.objs.force fun o=>H.grps.force fun g=>forceNat H.next fun n=>forceNat H.lo fun l=>f {objs:=o,grps:=g,next:=n,lo:=l}
def exOps(E:Env)(call:dc)(all:List Oper)(size:Nat):List Oper→Tr Value→Heap→Option (Tr Value×Heap)
 |[],T,H=>some (T,H)
 |o::rest,T,H=>
  match wantedA T all o with
  |none=>none
  |some true=>(exOp E call T o H).bind fun r=>(gW size T o.dst r.1).bind fun T=>CC r.2 fun H=>exOps E call all size rest T H
  |some false=>(gW size T o.dst undef).bind fun T=>exOps E call all size rest T H
def exDraw(E:Env)(call:dc)(all:List Oper)(size:Nat):List Oper→List Info→Tr Value→Heap→Option (Tr Value×Heap)
 |[],_,T,H=>some (T,H)
 |o::rest,i::bf,T,H=>
  match wantedA T all o with
  |none=>none
  |some true=>
   bif storeApart E T H o.op i.apart then
    (exOp E call T o {objs:=H.objs,grps:=H.grps,next:=H.next,lo:=bif i.grow then H.next else H.lo}).bind fun r=>bif keepOk E T r.2 i.cz then(gW size T o.dst r.1).bind fun T'=>
     CC {objs:=r.2.objs,grps:=r.2.grps,next:=r.2.next,lo:=H.lo} fun H=>exDraw E call all size rest bf T' H else none
   else none
  |some false=>(gW size T o.dst undef).bind fun T=>exDraw E call all size rest bf T H
 |_::_,[],_,_=>none
def rJ(E:Env)(call:dc)(ops:Array Oper)(size:Nat)(T:Tr Value)(H:Heap):Option (Tr Value×Heap):=
 bif !Maps.aX size then none else
 (xQ ops).bind fun bf=>(exDraw E call ops.toList size ops.toList bf T H).bind fun r=>bif Maps.aX r.2.next then some r else none
def paramsT(size:Nat):List Tmp→List Value→Tr Value→Option (Tr Value)
 |p::ps,v::vs,T=>bif Nat.blt p size then paramsT size ps vs (T.set p v)else none
 |[],[],T=>some T
 |_,_,_=>none
def Heap.setLoop(H:Heap)(l:Nat)(ready:Bool)(st:LoopState)(eQ:Option Code):Option Heap:=
 match H.objs.get l with
 |some (.loop K8 Fe size tmps params assign body defers)=>
  match ready,K8 with
  |true,.ready=>some (H.setObj l (.loop st Fe size tmps params assign body defers))
  |true,_=>none
  |false,_=>some (H.setObj l (.loop st eQ size tmps params assign body defers))
 |_=>none
def resultsV(E:Env)(H:Heap)(T:Tr Value):List ResultVar→Option (List Value)
 |[]=>some []
 | .tmp t::l=>(T.get t).bind fun v=>(resultsV E H T l).bind fun r=>some (v::r)
 | .cell a t::l=>(T.get a).bind fun a=>(loadV E H t a).bind fun v=>(resultsV E H T l).bind fun r=>some (v::r)
def jH:List Value→Value
 |[v]=>v
 |l=> .tuple l.toArray
def idxOf(c:Nat):List UInt8→Nat→Int
 |[],_=> -1
 |b::l,i=>bif Nat.beq b.toNat c then .ofNat i else idxOf c l (i+1)
def nativeV(name origin:String)(args:List Value):Option Value:=
 bif name== "internal/bytealg.IndexByteString" &&origin== "" then
  match args with
  |[.string s,.int .u8 c]=>forceInt (idxOf (c.toNat%256) s.data.toList 0) fun n=>some (.int .i64 n)
  |_=>none
 else none
def callBody(E:Env)(run:Code→Fr→Heap→Option (Ex×Fr×Heap)):dc:=fun f args H=>
 (target E f args).bind fun p=>
 match p.1 with
 | .func g=>
   (E.fn.get g).bind fun fn=>
   match fn.body with
   |none=>(nativeV fn.name fn.origin p.2).bind fun v=>some (v,H)
   |some c=>
    bif !Nat.ble p.2.length fn.ntmps then none else
    (run c {T:=Tr.of p.2,size:=fn.ntmps,marks:=[],round:=none} H).bind fun r=>
     match r.1 with
     | .exit _=>none
     |_=>(killMarks H.lo r.2.2.objs r.2.1.marks).bind fun t=>t.force fun t=>
      (resultsV E {objs:=t,grps:=r.2.2.grps,next:=r.2.2.next,lo:=r.2.2.lo} r.2.1.T fn.results.toList).bind fun vs=>some (jH vs,{objs:=t,grps:=r.2.2.grps,next:=r.2.2.next,lo:=r.2.2.lo})
 | .yield l=>
   match H.objs.get l with
   |some (.loop .ready _ size tmps params assign body _)=>
    bif !Nat.ble H.lo l then none else
    (paramsT size params p.2 tmps).bind fun T=>
    (run assign {T,size,marks:=[],round:=some l} H).bind fun r=>
     match r.1 with
     | .normal=>
       (r.2.2.setLoop l true .busy none).bind fun H1=>(run body r.2.1 H1).bind fun r=>
        match r.1 with
        | .normal=>(r.2.2.setLoop l false .ready none).bind fun H=>some (.bool true,H)
        | .ret=>(r.2.2.setLoop l false .done (some .ret)).bind fun H=>some (.bool false,H)
        | .exit id=>(r.2.2.setLoop l false .done (some (.exit id))).bind fun H=>some (.bool false,H)
     |_=>none
   |_=>none
 |_=>none
def fS(E:Env)(run:Code→Fr→Heap→Option (Ex×Fr×Heap)):dc:=fun f args H=>
 match E.orc f args H with
 |some r=>some r
 |none=>callBody E run f args H
def headNext:Code→Option Operand
 | .seq a _=>headNext a
 | .region _ ops false=>match ops.toList with
   |o::_=>match o.op,o.guard with
    | .next it false,none=>some it
    |_,_=>none
   |_=>none
 |_=>none
def writesOf:Code→List Tmp
 | .region _ ops _=>ops.toList.filterMap (·.dst)
 | .seq a b=>writesOf a++writesOf b
 | .cond _ a b=>writesOf a++writesOf b
 | .block _ a=>writesOf a
 | .loop a=>writesOf a
 | .scope a=>writesOf a
 |_=>[]
def dropAll:List Tmp→Tr Value→Tr Value
 |[],T=>T
 |t::l,T=>dropAll l (T.del t)
def runHead(E:Env)(run:Code→Fr→Heap→Option (Ex×Fr×Heap))(v:Value):Code→Fr→Heap→Option (Ex×Fr×Heap)
 | .seq a b,fr,H=>(runHead E run v a fr H).bind fun r=>
   match r.1 with
   | .normal=>run b r.2.1 r.2.2
   |e=>some (e,r.2)
 | .region _ ops _,fr,H=>
   match ops.toList with
   |o::rest=>(gW fr.size fr.T o.dst v).bind fun T=>(exOps E (fS E run) ops.toList fr.size rest T H).bind fun r=>some (.normal,{T:=r.1,size:=fr.size,marks:=fr.marks,round:=fr.round},r.2)
   |[]=>none
 |_,_,_=>none
def eqNats:List Nat→List Nat→Bool
 |[],[]=>true
 |a::l,b::r=>Nat.beq a b&&eqNats l r
 |_,_=>false
def rK(T:Tr Value):List Tmp→List (Tmp×Value)
 |[]=>[]
 |d::l=>match T.get d with
  |some v=>bif plain1 v then(d,v)::rK T l else rK T l
  |none=>rK T l
def alsoIn(T:Tr Value):List (Tmp×Value)→List (Tmp×Value)
 |[]=>[]
 |p::l=>match T.get p.1 with
  |some v=>bif same1 p.2 v then p::alsoIn T l else alsoIn T l
  |none=>alsoIn T l
def accRet(T:Tr Value)(ws:List Tmp):Option (List (Tmp×Value))→List (Tmp×Value)
 |none=>rK T ws
 |some l=>alsoIn T l
def uZ:List (Tmp×Value)→Tr Value→Tr Value
 |[],T=>T
 |p::l,T=>uZ l (T.set p.1 p.2)
def roundsV(E:Env)(run:Code→Fr→Heap→Option (Ex×Fr×Heap))(a:Code)(fr:Fr)(H:Heap)(r:Nat)(m:Option Nat)(n:Nat):List (Value×Value)→Nat→Option (List (Tmp×Value))→Option (Option (List (Tmp×Value)))
 |[],_,acc=>some acc
 |e::es,i,acc=>
  match runHead E run (.tuple #[.bool true,e.1,e.2]) a fr {objs:=(H.setObj r (.iter m n (.told i))).objs,grps:=H.grps,next:=H.next,lo:=H.next}with
  |some (ex,bq,_)=>bif eqNats bq.marks fr.marks&&Nat.beq bq.size fr.size then
    match ex with
    | .normal=>roundsV E run a fr H r m n es (i+1) acc
    | .ret=>roundsV E run a fr H r m n es (i+1) (some (accRet bq.T (writesOf a) acc))
    | .exit _=>none
   else none
  |none=>none
def mapLoop(E:Env)(run:Code→Fr→Heap→Option (Ex×Fr×Heap))(a:Code)(it:Operand)(fr:Fr)(H:Heap):Option (Ex×Fr×Heap):=
 (dropAll (writesOf a) fr.T).force fun T=>
 (ev T it).bind fun it=>
 match it with
 | .pointer (some ⟨r,0,none⟩)=>
   match H.objs.get r with
   |some (.iter m n .start)=>
    (entriesOf H m).bind fun es=>
     bif !Nat.beq es.length n|| !Nat.ble H.lo r then none else
      (roundsV E run a {T,size:=fr.size,marks:=fr.marks,round:=fr.round} H r m n es 0 none).bind fun o=>
       match o with
       |none=>(runHead E run (.tuple #[.bool false]) a {T,size:=fr.size,marks:=fr.marks,round:=fr.round} {objs:=H.objs.del r,grps:=H.grps,next:=H.next,lo:=H.lo}).bind fun r=>
        match r.1 with
        | .normal=>none
        |e=>some (e,r.2)
       |some vs=>some (.ret,{T:=uZ vs T,size:=fr.size,marks:=fr.marks,round:=fr.round},{objs:=H.objs.del r,grps:=H.grps,next:=H.next,lo:=H.lo})
   |_=>none
 |_=>none
def xR(T:Tr Value)(H:Heap)(it:Operand):Bool:=
 match ev T it with
 |some (.pointer (some ⟨r,_,none⟩))=>(match H.objs.get r with
  |some (.lO ..)=>true
  |_=>false)
 |_=>false
def zJ(run:Code→Fr→Heap→Option (Ex×Fr×Heap))(a:Code)(fr:Fr)(H:Heap):Option (Ex×Fr×Heap):=
 (run a fr H).bind fun r=>
  match r.1 with
  | .normal=>(run a r.2.1 r.2.2).bind fun r=>
    match r.1 with
    | .normal=>none
    |e=>some (e,r.2)
  |e=>some (e,r.2)
def rangeV(E:Env)(run:Code→Fr→Heap→Option (Ex×Fr×Heap))(g:Value)(params:List Tmp)(assign body:Code)(fr:Fr)(H:Heap):Option (Ex×Fr×Heap):=
 let H1:=H.add .defers
 match g with
 | .func (.func _) _ _=>
   (callBody E run g [.func (.yield H1.next) #[] #[]] (H1.add (.loop .ready none fr.size fr.T params assign body H.next))).bind fun r=>
    match r.2.objs.get H1.next with
    |some (.loop st pending size tmps ps as bo de)=>
     match st with
     | .busy=>none
     |_=>
      match pending with
      |none=>some (.normal,{T:=fr.T,size:=fr.size,marks:=H.next::fr.marks,round:=fr.round},r.2.setObj H1.next (.loop .exhausted pending size tmps ps as bo de))
      |some c=>
       match c with
       | .ret| .exit _=>run c {T:=fr.T,size:=fr.size,marks:=H.next::fr.marks,round:=fr.round} (r.2.setObj H1.next (.loop .exhausted pending size tmps ps as bo de))
       |_=>none
    |_=>none
 |_=>none
def runWith(E:Env)(run:Code→Fr→Heap→Option (Ex×Fr×Heap))(c:Code)(fr:Fr)(H:Heap):Option (Ex×Fr×Heap):=
 match c with
 | .skip=>some (.normal,fr,H)
 | .label _=>some (.normal,fr,H)
 | .region _ ops rL=>
   (match rL with
    |false=>exOps E (fS E run) ops.toList fr.size ops.toList fr.T H
    |true=>rJ E (fS E run) ops fr.size fr.T H).bind fun r=>some (.normal,{T:=r.1,size:=fr.size,marks:=fr.marks,round:=fr.round},r.2)
 | .seq a b=>(run a fr H).bind fun r=>
   match r.1 with
   | .normal=>run b r.2.1 r.2.2
   |e=>some (e,r.2)
 | .cond x a b=>(ev fr.T x).bind fun v=>
   match v with
   | .bool true=>run a fr H
   | .bool false=>run b fr H
   |_=>none
 | .block id a=>(run a fr H).bind fun r=>
   match r.1 with
   | .exit i=>bif Nat.beq i id then some (.normal,r.2)else some (.exit i,r.2)
   |e=>some (e,r.2)
 | .loop a=>
   match headNext a with
   |some it=>bif xR fr.T H it then zJ run a fr H else mapLoop E run a it fr H
   |none=>(run a fr H).bind fun r=>
    match r.1 with
    | .normal=>run (.loop a) r.2.1 r.2.2
    |e=>some (e,r.2)
 | .scope a=>run a fr H
 | .exit id=>some (.exit id,fr,H)
 | .ret=>some (.ret,fr,H)
 | .rangeFunc g params assign body=>
   match fr.round with
   |some _=>none
   |none=>(ev fr.T g).bind fun g=>rangeV E run g params.toList assign body fr H
 |_=>none
def run(E:Env):Nat→Code→Fr→Heap→Option (Ex×Fr×Heap)
 |0=>fun _ _ _=>none
 |n+1=>runWith E (run E n)
end
section
variable[Maps]
theorem Tr.force_eq{α β:Type}(t:Tr α)(f:Tr α→β):t.force f=f t:=Maps.force_eq t f
theorem Tr.get_nil{α:Type}(k:Nat):(Tr.nil:Tr α).get k=none:=Maps.get_nil k
theorem Tr.dq{α:Type}{t:Tr α}{k j:Nat}{a v:α}(h:(t.set k a).get j=some v):(j=k∧v=a)∨(j≠k∧t.get j=some v):=Maps.dq h
theorem Tr.jm{α:Type}{t:Tr α}{k j:Nat}{v:α}(h:(t.del k).get j=some v):j≠k∧t.get j=some v:=Maps.jm h
theorem Tr.mO{α:Type}{t:Tr α}{k:Nat}{a:α}(h:Maps.low k):(t.set k a).get k=some a:=Maps.mO h
theorem Tr.vd{α:Type}{t:Tr α}{k j:Nat}{a:α}(a9:j≠k)(h:Maps.low j):(t.set k a).get j=t.get j:=Maps.vd a9 h
theorem Tr.vB{α:Type}{t:Tr α}{k j:Nat}(a9:j≠k)(h:Maps.low j):(t.del k).get j=t.get j:=Maps.vB a9 h
end
section
variable{P:Program}
theorem fb{β:Type}(n:Nat)(f:Nat→β):forceNat n f=f n:=by cases n<;>rfl
theorem rG{β:Type}(n:Int)(f:Int→β):forceInt n f=f n:=by
 cases n<;>simp[forceInt,fb]
end
section
variable[Maps]
theorem ub{β:Type}(H:Heap)(f:Heap→β):CC H f=f H:=by
 simp only[CC,Tr.force_eq,fb]
theorem Tr.NJ{α:Type}{v:α}:∀ (l:List α) (k j:Nat) (t:Tr α),(Tr.Fv l k t).get j=some v→(k≤j∧l[j-k]? =some v)∨(t.get j=some v∧¬ (k≤j∧j<k+l.length))
 |[],k,j,t,h=> .inr ⟨h,by simp⟩
 |x::l,k,j,t,h=>by
  rcases Tr.NJ l (k+1) j (t.set k x) h with⟨h1,h2⟩|⟨h1,h2⟩
  ·refine .inl ⟨by omega,?_⟩
   rw[show j-k=(j-(k+1))+1 by omega]
   simpa using h2
  ·rcases Tr.dq h1 with⟨rfl,rfl⟩|⟨h3,h4⟩
   ·exact .inl ⟨wy _,by simp⟩
   ·exact .inr ⟨h4,by simp at h2 ⊢;omega⟩
theorem Tr.zE{α:Type}{l:List α}{j:Nat}{v:α}(h:(Tr.of l).get j=some v):l[j]? =some v:=by
 rcases Tr.NJ l 0 j .nil h with⟨_,h2⟩|⟨h2,_⟩
 ·simpa using h2
 ·simp[Tr.get_nil]at h2
theorem Tr.GX{α:Type}{v:α}:∀ (l:List (Option α)) (k j:Nat) (t:Tr α),(Tr.CA l k t).get j= .some v→(k≤j∧l[j-k]? = .some (.some v))∨t.get j= .some v
 |[],k,j,t,h=> .inr h
 | .some x::l,k,j,t,h=>by
   rcases Tr.GX l (k+1) j (t.set k x) h with⟨h1,h2⟩|h1
   ·refine .inl ⟨by omega,?_⟩
    rw[show j-k=(j-(k+1))+1 by omega]
    simpa using h2
   ·rcases Tr.dq h1 with⟨rfl,rfl⟩|⟨_,h4⟩
    ·exact .inl ⟨wy _,by simp⟩
    ·exact .inr h4
 | .none::l,k,j,t,h=>by
   rcases Tr.GX l (k+1) j t h with⟨h1,h2⟩|h1
   ·refine .inl ⟨by omega,?_⟩
    rw[show j-k=(j-(k+1))+1 by omega]
    simpa using h2
   ·exact .inr h1
theorem Tr.VP{α:Type}{l:List (Option α)}{j:Nat}{v:α}(h:(Tr.Lq l).get j= .some v):l[j]? = .some (.some v):=by
 rcases Tr.GX l 0 j .nil h with⟨_,h2⟩|h2
 ·simpa using h2
 ·simp[Tr.get_nil]at h2
end
section
variable{P:Program}
theorem vP(a b:Int):leI a b=decide (a≤b):=by
 cases a<;>cases b<;>simp only[leI]
 ·rw[waU];simp[wbi]
 ·simp;omega
 ·simp;omega
 ·rw[waU];simp[wbi];omega
theorem gI(a b:Int):eqI a b=(a==b):=by
 cases a<;>cases b<;>simp only[eqI]
 ·rw[waU];simp;omega
 ·rw[waU];simp
 ·rw[waU];simp
 ·rw[waU];simp
theorem qG(a b:Int):oC a b=decide (a<b):=by
 unfold oC
 rw[vP]
 by_cases h:b≤a
 ·rw[wz h,wx (by omega)];rfl
 ·rw[wx h,wz (by omega)];rfl
theorem at?_eq{i:Int}{n k:Nat}(h:at? i n=some k):i=k∧k<n:=by
 cases i with
 |ofNat i=>
  simp only[at?]at h
  cases hb:Nat.blt i n with
  |true=>
   rw[hb]at h;simp at h;subst h
   exact⟨rfl,by simp[Nat.blt]at hb;omega⟩
  |false=>rw[hb]at h;simp at h
 |negSucc i=>simp[at?]at h
theorem to?_eq{i:Int}{n k:Nat}(h:to? i n=some k):i=k∧k≤n:=by
 cases i with
 |ofNat i=>
  simp only[to?]at h
  cases hb:Nat.ble i n with
  |true=>
   rw[hb]at h;simp at h;subst h
   exact⟨rfl,by simpa using hb⟩
  |false=>rw[hb]at h;simp at h
 |negSucc i=>simp[to?]at h
theorem uo(k:IntKind)(n:Int)(h1:k.min≤n)(h2:n≤k.max):k.wrap n=n:=by
 cases k<;>simp[IntKind.wrap,IntKind.min,IntKind.max,IntKind.bits,IntKind.signed]at* <;>omega
theorem NK(k:IntKind)(n:Int):Fy k n=k.wrap n:=by
 unfold Fy
 rw[vP,vP]
 by_cases h:k.min≤n∧n≤k.max
 ·rw[wz h.1,wz h.2];exact(uo k n h.1 h.2).symm
 ·cases h1:decide (k.min≤n)<;>cases h2:decide (n≤k.max)<;>first|rfl|exact absurd ⟨wap h1,wap h2⟩ h
theorem kj{k:IntKind}{n:Int}{v:Value}(h:fF k n=some v):v= .int k (k.wrap n):=by
 simp only[fF,rG,NK,wi]at h
 exact h.symm
end
section
variable[Maps]
structure dV where
 ax:Nat
 base:Nat
 room:Nat
 exact:Bool
 z:Nat
abbrev Match:=Nat→Option dV
def Match.le(m m':Match):Prop:=∀ r p,m r=some p→m' r=some p
end
section
variable{P:Program}
theorem Match.le_refl(m:Match):m.le m:=fun _ _ h=>h
theorem Match.le_trans{a b c:Match}(h:a.le b)(h':b.le c):a.le c:=fun r p x=>h' r p (h r p x)
end
section
variable[Maps]
def FnRel(m:Match):Fn→Fn→Prop
 | .yield l,f=>∃ p,m l=some p∧f= .yield p.ax
 |f,f'=>f'=f
inductive VRel(m:Match):Value→Value→Prop where
 |bool (b:Bool):VRel m (.bool b) (.bool b)
 |int (k:IntKind) (n:Int):VRel m (.int k n) (.int k n)
 |string (s:ByteArray):VRel m (.string s) (.string s)
 |vH:VRel m (.pointer none) (.pointer none)
 |ptr {r o:Nat} {p:dV} (h:m r=some p):VRel m (.pointer (some ⟨r,o,none⟩)) (.pointer (some ⟨p.ax,p.base+o,none⟩))
 |qk (l c:Nat):VRel m (.slice none l c) (.slice none l c)
 |slice {r o l c c':Nat} {p:dV} (h:m r=some p) (hc:c≤c') (he:p.exact=true→c'=c) (hi:p.exact=false→p.base+o+c'*p.z≤p.room):
   VRel m (.slice (some ⟨r,o,none⟩) l c) (.slice (some ⟨p.ax,p.base+o,none⟩) l c')
 |empty {r o:Nat} {p:dV} (a:Addr) (h:m r=some p) (he:p.exact=false):VRel m (.slice (some ⟨r,o,none⟩) 0 0) (.slice (some a) 0 0)
 |vI:VRel m (.map none) (.map none)
 |map {r:Nat} {p:dV} (h:m r=some p):VRel m (.map (some r)) (.map (some p.ax))
 |nilFunc:VRel m .nilFunc .nilFunc
 |func {f f':Fn} {a a' b b':Array Value} (hf:FnRel m f f') (ha:a.toList.length=a'.toList.length) (hb:b.toList.length=b'.toList.length)
   (ra:∀ (i:Nat) (v v':Value),a.toList[i]? =some v→a'.toList[i]? =some v'→VRel m v v')
   (rb:∀ (i:Nat) (v v':Value),b.toList[i]? =some v→b'.toList[i]? =some v'→VRel m v v'):VRel m (.func f a b) (.func f' a' b')
 |iface (t:TypeId) {v v':Value} (h:VRel m v v'):VRel m (.iface t v) (.iface t v')
 |nilIface:VRel m .nilIface .nilIface
 |agg {a a':Array Value} (ha:a.toList.length=a'.toList.length) (ra:∀ (i:Nat) (v v':Value),a.toList[i]? =some v→a'.toList[i]? =some v'→VRel m v v'):VRel m (.agg a) (.agg a')
 |tuple {a a':Array Value} (ha:a.toList.length=a'.toList.length) (ra:∀ (i:Nat) (v v':Value),a.toList[i]? =some v→a'.toList[i]? =some v'→VRel m v v'):VRel m (.tuple a) (.tuple a')
def LRel(m:Match)(l l':List Value):Prop:=l.length=l'.length∧∀ (i:Nat) (v v':Value),l[i]? =some v→l'[i]? =some v'→VRel m v v'
end
section
variable{P:Program}
theorem FnRel.mono{m m':Match}(h:m.le m'){f f':Fn}(hf:FnRel m f f'):FnRel m' f f':=by
 cases f<;>first|exact hf|(obtain⟨p,h1,h2⟩:=hf;exact⟨p,h _ _ h1,h2⟩)
theorem VRel.mono{m m':Match}(h:m.le m'){v v':Value}(hv:VRel m v v'):VRel m' v v':=by
 induction hv with
 |bool b=>exact .bool b
 |int k n=>exact .int k n
 |string s=>exact .string s
 |vH=>exact .vH
 |ptr h1=>exact .ptr (h _ _ h1)
 |qk l c=>exact .qk l c
 |slice h1 h2 h3 h4=>exact .slice (h _ _ h1) h2 h3 h4
 |empty a h1 h2=>exact .empty a (h _ _ h1) h2
 |vI=>exact .vI
 |map h1=>exact .map (h _ _ h1)
 |nilFunc=>exact .nilFunc
 |func hf ha hb _ _ pC vQ=>exact .func (hf.mono h) ha hb pC vQ
 |iface t _ ih=>exact .iface t ih
 |nilIface=>exact .nilIface
 |agg ha _ ih=>exact .agg ha ih
 |tuple ha _ ih=>exact .tuple ha ih
theorem LRel.mono{m m':Match}(h:m.le m'){l l':List Value}(hl:LRel m l l'):LRel m' l l':=⟨hl.1,fun i v v' a b=>(hl.2 i v v' a b).mono h⟩
theorem LRel.nil(m:Match):LRel m [] []:=⟨rfl,fun i v v' h=>by simp at h⟩
theorem LRel.cons{m:Match}{v v':Value}{l l':List Value}(hv:VRel m v v')(hl:LRel m l l'):LRel m (v::l) (v'::l'):=
 ⟨by simp[hl.1],fun i a b ha hb=>by
  cases i with
  |zero=>simp at ha hb;subst ha hb;exact hv
  |succ i=>exact hl.2 i a b (by simpa using ha) (by simpa using hb)⟩
theorem LRel.one{m:Match}{v v':Value}(hv:VRel m v v'):LRel m [v] [v']:= .cons hv (.nil m)
theorem LRel.get{m:Match}{l l':List Value}(hl:LRel m l l'){i:Nat}{v:Value}(h:l[i]? =some v):∃ v',l'[i]? =some v'∧VRel m v v':=by
 have hi:i<l.length:=(wD.1 h).1
 have eh:i<l'.length:=by rw[←hl.1];exact hi
 exact⟨l'[i],wj eh,hl.2 i _ _ h (wj eh)⟩
theorem DC{l l':List Value}(h:l.length=l'.length){i:Nat}{v:Value}(hv:l[i]? =some v):∃ u,l'[i]? =some u:=
 ⟨_,wj (by rw[←h];exact(wD.1 hv).1)⟩
theorem FnRel.sub{m₁ m₂ m₃:Match}{f f' NL:Fn}(h1:FnRel m₁ f f')(h2:FnRel m₂ f NL)(cp:∀ r p q,m₁ r=some p→m₂ r=some q→m₃ r=some q):FnRel m₃ f NL:=by
 cases f<;>first|exact h2|(obtain⟨p,a,_⟩:=h1;obtain⟨q,b,c⟩:=h2;exact⟨q,cp _ _ _ a b,c⟩)
theorem VRel.sub{m₁ m₂ m₃:Match}(cp:∀ r p q,m₁ r=some p→m₂ r=some q→m₃ r=some q){v v' rz:Value}(h1:VRel m₁ v v')(h2:VRel m₂ v rz):VRel m₃ v rz:=by
 induction h1 generalizing rz with
 |bool b=>cases h2;exact .bool b
 |int k n=>cases h2;exact .int k n
 |string s=>cases h2;exact .string s
 |vH=>cases h2;exact .vH
 |ptr h=>cases h2 with|ptr h'=>exact .ptr (cp _ _ _ h h')
 |qk l c=>cases h2;exact .qk l c
 |slice h _ _ _=>cases h2 with
  |slice h' a b c=>exact .slice (cp _ _ _ h h') a b c
  |empty a h' b=>exact .empty a (cp _ _ _ h h') b
 |empty _ h _=>cases h2 with
  |slice h' a b c=>exact .slice (cp _ _ _ h h') a b c
  |empty a h' b=>exact .empty a (cp _ _ _ h h') b
 |vI=>cases h2;exact .vI
 |map h=>cases h2 with|map h'=>exact .map (cp _ _ _ h h')
 |nilFunc=>cases h2;exact .nilFunc
 |func hf ha hb _ _ pC vQ=>cases h2 with
  |func dZ pg rR Az VQ=>
   refine .func (hf.sub dZ cp) pg rR (fun i v v' hv dv=>?_) (fun i v v' hv dv=>?_)
   ·obtain⟨u,hu⟩:=DC ha hv
    exact pC i v u hv hu (Az i v v' hv dv)
   ·obtain⟨u,hu⟩:=DC hb hv
    exact vQ i v u hv hu (VQ i v v' hv dv)
 |iface t _ ih=>cases h2 with|iface _ h'=>exact .iface t (ih h')
 |nilIface=>cases h2;exact .nilIface
 |agg ha _ ih=>cases h2 with
  |agg pg Az=>
   refine .agg pg (fun i v v' hv dv=>?_)
   obtain⟨u,hu⟩:=DC ha hv
   exact ih i v u hv hu (Az i v v' hv dv)
 |tuple ha _ ih=>cases h2 with
  |tuple pg Az=>
   refine .tuple pg (fun i v v' hv dv=>?_)
   obtain⟨u,hu⟩:=DC ha hv
   exact ih i v u hv hu (Az i v v' hv dv)
theorem LRel.sub{m₁ m₂ m₃:Match}(cp:∀ r p q,m₁ r=some p→m₂ r=some q→m₃ r=some q){l l' NM:List Value}(h1:LRel m₁ l l')(h2:LRel m₂ l NM):LRel m₃ l NM:=
 ⟨h2.1,fun i v v' hv dv=>by
  obtain⟨u,hu,hr⟩:=h1.get hv
  exact hr.sub cp (h2.2 i v v' hv dv)⟩
theorem LRel.append{m:Match}{a a' b b':List Value}(ha:LRel m a a')(hb:LRel m b b'):LRel m (a++b) (a'++b'):=by
 refine⟨by simp[ha.1,hb.1],fun i v v' h h'=>?_⟩
 by_cases hi:i<a.length
 ·rw[waf hi]at h
  rw[waf (by rw[←ha.1];exact hi)]at h'
  exact ha.2 i v v' h h'
 ·rw[waB (by omega)]at h
  rw[waB (by rw[←ha.1];omega),←ha.1]at h'
  exact hb.2 _ v v' h h'
theorem LRel.take{m:Match}{a a':List Value}(ha:LRel m a a')(n:Nat):LRel m (a.take n) (a'.take n):=by
 refine⟨by simp[ha.1],fun i v v' h h'=>?_⟩
 rw[wab]at h h'
 split at h
 ·rename_i hi
  rw[wF hi]at h'
  exact ha.2 i v v' h h'
 ·simp at h
theorem LRel.drop{m:Match}{a a':List Value}(ha:LRel m a a')(n:Nat):LRel m (a.drop n) (a'.drop n):=by
 refine⟨by simp[ha.1],fun i v v' h h'=>?_⟩
 rw[wae]at h h'
 exact ha.2 _ v v' h h'
theorem LRel.tail{m:Match}{v v':Value}{l l':List Value}(h:LRel m (v::l) (v'::l')):VRel m v v'∧LRel m l l':=
 ⟨h.2 0 v v' rfl rfl,by simpa using h.1,fun i a b ha hb=>h.2 (i+1) a b (by simpa using ha) (by simpa using hb)⟩
theorem LRel.oz{m:Match}{v:Value}{l l':List Value}(h:LRel m (v::l) l'):∃ v' r,l'=v'::r∧VRel m v v'∧LRel m l r:=by
 cases l' with
 |nil=>have:=h.1;simp at this
 |cons v' r=>exact⟨v',r,rfl,h.tail⟩
theorem LRel.mI{m:Match}{l':List Value}(h:LRel m [] l'):l'=[]:=by
 cases l' with
 |nil=>rfl
 |cons v' r=>have:=h.1;simp at this
theorem VRel.zU{m:Match}{l l':List Value}(h:LRel m l l'):VRel m (.agg l.toArray) (.agg l'.toArray):= .agg (by simpa using h.1) (by simpa using h.2)
theorem VRel.uW{m:Match}{l l':List Value}(h:LRel m l l'):VRel m (.tuple l.toArray) (.tuple l'.toArray):= .tuple (by simpa using h.1) (by simpa using h.2)
theorem VRel.Dq{m:Match}{a:Array Value}{v':Value}(h:VRel m (.agg a) v'):∃ a',v'= .agg a'∧LRel m a.toList a'.toList:=by
 cases h with|agg ha ra=>exact⟨_,rfl,ha,ra⟩
theorem xV{m:Match}{v v':Value}(h:VRel m v v'):LRel m (cj v) (cj v'):=by
 cases h<;>simp only[cj]
 case agg ha ra=>exact⟨ha,ra⟩
 all_goals first
  |exact .one (.bool _)|exact .one (.int _ _)|exact .one (.string _)|exact .one .vH|exact .one (.qk _ _)|exact .one .vI|exact .one .nilFunc|exact .one .nilIface
  |exact .one (.ptr ‹_›)|exact .one (.slice ‹_› ‹_› ‹_› ‹_›)|exact .one (.empty _ ‹_› ‹_›)|exact .one (.map ‹_›)|exact .one (.func ‹_› ‹_› ‹_› ‹_› ‹_›)|exact .one (.iface _ ‹_›)|exact .one (.tuple ‹_› ‹_›)
theorem jD(v:Value):v.cells.toList=cj v:=by cases v<;>rfl
theorem GY{m:Match}{v:Value}(h:plain1 v=true):VRel m v v:=by
 cases v with
 |bool b=>exact .bool b
 |int k n=>exact .int k n
 |string s=>exact .string s
 |pointer a=>cases a<;>simp[plain1]at h;exact .vH
 |slice a l c=>cases a<;>simp[plain1]at h;exact .qk l c
 |map r=>cases r<;>simp[plain1]at h;exact .vI
 |nilFunc=>exact .nilFunc
 |nilIface=>exact .nilIface
 |_=>simp[plain1]at h
theorem LRel.VR{m:Match}{l:List Value}(h:∀ v∈l,VRel m v v):LRel m l l:=
 ⟨rfl,fun i v v' a b=>by rw[a]at b;cases b;exact h v (wag a)⟩
theorem plainV_rel{m:Match}{v:Value}(h:plainV v=true):VRel m v v:=by
 cases v with
 |agg cs=>
  have hl:LRel m cs.toList cs.toList:=LRel.VR fun v hv=>GY (by simpa[plainV]using waC.1 h v hv)
  exact .agg hl.1 hl.2
 |_=>exact GY h
theorem Fm(m:Match):VRel m undef undef:= .tuple rfl (fun i v v' h=>by simp at h)
end
section
variable[Maps]
def fy(m:Match)(T:Tr Value)(tmps:Array Value):Prop:=∀ t v,T.get t=some v→∃ v',tmps[t]? =some v'∧VRel m v v'
theorem fy.mono{m m':Match}(h:m.le m'){T:Tr Value}{tmps:Array Value}(ht:fy m T tmps):fy m' T tmps:=
 fun t v hv=>let⟨v',a,b⟩:=ht t v hv;⟨v',a,b.mono h⟩
theorem cO{m:Match}{T:Tr Value}{a:Act}(ht:fy m T a.tmps){x:Operand}{v:Value}(h:ev T x=some v):VRel m v (a.eval x):=by
 cases x with
 |tmp t=>
  obtain⟨v',h1,h2⟩:=ht t v h
  have:a.eval (.tmp t)=v':=by simp[Act.eval,wax,h1]
  rw[this];exact h2
 |const c=>
  simp only[ev]at h
  cases hp:plainV c with
  |true=>rw[hp]at h;simp at h;subst h;exact plainV_rel hp
  |false=>rw[hp]at h;simp at h
 |global g=>simp[ev]at h
 |func f=>simp only[ev,wi]at h;subst h;exact .func rfl rfl rfl (fun i v v' h=>by simp at h) (fun i v v' h=>by simp at h)
theorem CK{m:Match}{T:Tr Value}{a:Act}(ht:fy m T a.tmps):∀ {l:List Operand} {vs:List Value},evs T l=some vs→LRel m vs (l.map a.eval)
 |[],vs,h=>by simp[evs]at h;subst h;exact .nil m
 |x::l,vs,h=>by
  simp only[evs,we]at h
  obtain⟨v,h1,r,h2,h3⟩:=h
  simp at h3;subst h3
  exact .cons (cO ht h1) (CK ht h2)
def th(m:Match)(cells:List Value)(C:Array Value)(base:Nat):Prop:=∀ i v,cells[i]? =some v→∃ v',C[base+i]? =some v'∧VRel m v v'
def IterRel(m:Match)(p:dV)(mm:Option Nat)(n:Nat)(pos:Fw)(w:World):Prop:=
 p.base=0∧∃ iH seen,w.heap[p.ax]? =some (.mapIter iH n seen n)∧(match mm with
  |none=>iH=none
  |some r=>∃ q,m r=some q∧iH=some q.ax)∧(match pos with
  | .start=>seen= #[]
  | .told i=>seen.back? =some i)
def iZ(wr:Bool)(m:Match)(p:dV)(w:World):AObj→Prop
 | .row cells bH _=>(∃C e fr,w.heap[p.ax]? =some (.cells C e fr)∧C.size=p.room∧(wr=true→∀ i,i<C.size→¬ (fr.1≤i∧i<fr.2))∧p.base+cells.length≤C.size∧th m cells C p.base)∧
   p.exact=bH.isNone∧(∀g z,bH=some (g,z)→p.z=z)
 | .map es=>∃ bm:Array MapEntry,w.heap[p.ax]? =some (.map bm bm.size)∧bm.size=es.length∧
   ∀i k v,es[i]? =some (k,v)→∃ e':MapEntry,bm[i]? =some e'∧VRel m k e'.key∧VRel m v e'.val∧e'.born=i
 | .loop st eQ size T ps as bo _=>∃ l:Loop,w.heap[p.ax]? =some (.loop l)∧l.state=st∧l.pending=eQ∧l.tmps.size=size∧fy m T l.tmps∧l.params.toList=ps∧l.assign=as∧l.body=bo
 | .defers=>w.heap[p.ax]? =some (.deferred (some []))
 | .iter mm n pos=>IterRel m p mm n pos w
 | .pj s pos=>p.base=0∧w.heap[p.ax]? =some (.stringIter s pos)
 | .lQ es c=>∃ bm:Array MapEntry,w.heap[p.ax]? =some (.map bm c)∧bm.size=es.length∧
   ∀(i:Nat) (k v:Value) (b:Nat),es[i]? =some ((k,v),b)→∃ e':MapEntry,bm[i]? =some e'∧VRel m k e'.key∧VRel m v e'.val∧e'.born=b
 | .lO mm lP seen last=>p.base=0∧∃ q,m mm=some q∧w.heap[p.ax]? =some (.mapIter (some q.ax) lP seen.toArray last)
end
section
variable{P:Program}
theorem IterRel.mono{m m':Match}(h:m.le m'){p:dV}{mm:Option Nat}{n:Nat}{pos:Fw}{w w':World}(hw:w'.heap[p.ax]? =w.heap[p.ax]?)
  (ho:IterRel m p mm n pos w):IterRel m' p mm n pos w':=by
 obtain⟨h0,iH,seen,h1,h2,h3⟩:=ho
 refine⟨h0,iH,seen,hw.trans h1,?_,h3⟩
 cases mm with
 |none=>exact h2
 |some r=>obtain⟨q,h4,h5⟩:=h2;exact⟨q,h _ _ h4,h5⟩
end
section
variable[Maps]
theorem iZ.mono{wr:Bool}{m m':Match}(h:m.le m'){p:dV}{w w':World}(hw:w'.heap[p.ax]? =w.heap[p.ax]?){o:AObj}(ho:iZ wr m p w o):iZ wr m' p w' o:=by
 cases o with
 |row cells bH dF=>
  obtain⟨⟨C,e,fr,h1,h2,h3,h4,h5⟩,h6,h7⟩:=ho
  exact⟨⟨C,e,fr,hw.trans h1,h2,h3,h4,fun i v hv=>let⟨v',a,b⟩:=h5 i v hv;⟨v',a,b.mono h⟩⟩,h6,h7⟩
 |map es=>
  obtain⟨bm,h1,h2,h3⟩:=ho
  exact⟨bm,hw.trans h1,h2,fun i k v hv=>let⟨e',a,b,c,d⟩:=h3 i k v hv;⟨e',a,b.mono h,c.mono h,d⟩⟩
 |loop st eQ size T ps as bo de=>
  obtain⟨l,h1,h2,h3,h4,h5,h6⟩:=ho
  exact⟨l,hw.trans h1,h2,h3,h4,h5.mono h,h6⟩
 |defers=>exact hw.trans ho
 |iter mm n pos=>exact IterRel.mono h hw ho
 |pj s pos=>exact⟨ho.1,hw.trans ho.2⟩
 |lQ es c=>
  obtain⟨bm,h1,h2,h3⟩:=ho
  exact⟨bm,hw.trans h1,h2,fun i k v b hv=>let⟨e',a,c,d,f⟩:=h3 i k v b hv;⟨e',a,c.mono h,d.mono h,f⟩⟩
 |lO mm lP seen last=>
  obtain⟨h0,q,h1,h2⟩:=ho
  exact⟨h0,q,h _ _ h1,hw.trans h2⟩
def Mates:AObj→AObj→Prop
 | .row _ (some (g,_)) _,.row _ (some (g',_)) _=>g=g'
 |_,_=>False
structure Rel(B lo0:Nat)(m:Match)(H:Heap)(w:World):Prop where
 base:B≤w.heap.size
 lo:lo0≤H.lo
 ag:H.lo≤H.next
 dom:∀ r p,m r=some p→r<H.next∧p.ax<w.heap.size∧(lo0≤r→B≤p.ax)∧(r<lo0→p.ax<B)
 obj:∀ r p o,m r=some p→H.objs.get r=some o→iZ (decide (lo0≤r)) m p w o
 sep:∀ r r' p p' o o',r≠r'→lo0≤r→m r=some p→m r'=some p'→H.objs.get r=some o→H.objs.get r'=some o'→p.ax=p'.ax→Mates o o'
 dF:∀ r r' p p' c c' g z z',m r=some p→m r'=some p'→H.objs.get r=some (.row c (some (g,z)) true)→H.objs.get r'=some (.row c' (some (g,z')) true)→r=r'
 aS:∀ r p c g z,m r=some p→H.objs.get r=some (.row c (some (g,z)) false)→∀ l,H.grps.get g=some l→r∈l
 ends:∀ r r' p p' c c' g z z' t,m r=some p→m r'=some p'→H.objs.get r=some (.row c (some (g,z)) true)→H.objs.get r'=some (.row c' (some (g,z')) t)→p.ax=p'.ax→
  p'.base+c'.length≤p.base+c.length
 bH:∀ r p c g z t,m r=some p→H.objs.get r=some (.row c (some (g,z)) t)→g<H.next
 fJ:GN≤B∧GL w
structure Good(B lo0:Nat)(m:Match)(H:Heap)(w:World)(m':Match)(H':Heap)(w':World):Prop where
 le:m.le m'
 rel:Rel B lo0 m' H' w'
 new:∀ r p,m' r=some p→m r=some p∨(m r=none∧H.next≤r)
 ax:∀ r p,m' r=some p→m r=none→w.heap.size≤p.ax∨∃ r₀ p₀,m r₀=some p₀∧H.lo≤r₀∧p₀.ax=p.ax
 ag:H.next≤H'.next
 lo:H'.lo=H.lo
 frame:∀ b,b<w.heap.size→(∀r p,m r=some p→H.lo≤r→p.ax≠b)→w'.heap[b]? =w.heap[b]?
 size:w.heap.size≤w'.heap.size
 low:∀ r o,r<H.lo→H'.objs.get r=some o→H.objs.get r=some o
 os:w'.os=w.os∧w'.output=w.output
theorem Good.refl{B lo0:Nat}{m:Match}{H:Heap}{w:World}(h:Rel B lo0 m H w):Good B lo0 m H w m H w:=
 ⟨m.le_refl,h,fun _ _ h=> .inl h,fun r p h h'=>(by rw[h]at h';cases h'),wy _,rfl,fun _ _ _=>rfl,wy _,fun _ _ _ h=>h,rfl,rfl⟩
theorem Good.trans{B lo0:Nat}{m m' rF:Match}{H H' kv:Heap}{w w' fE:World}(h:Good B lo0 m H w m' H' w')(h':Good B lo0 m' H' w' rF kv fE):Good B lo0 m H w rF kv fE:=by
 refine⟨Match.le_trans h.le h'.le,h'.rel,fun r p hp=>?_,fun r p hp hn=>?_,wK h.ag h'.ag,h'.lo.trans h.lo,fun b hb hf=>?_,wK h.size h'.size,fun r o hr ho=>?_,
  h'.os.1.trans h.os.1,h'.os.2.trans h.os.2⟩
 ·rcases h'.new r p hp with h1|⟨h1,h2⟩
  ·exact h.new r p h1
  ·cases hm:m r with
   |none=>exact .inr ⟨rfl,wK h.ag h2⟩
   |some q=>rw[h.le r q hm]at h1;cases h1
 ·cases eE:m' r with
  |none=>
   rcases h'.ax r p hp eE with h1|⟨r₀,p₀,h1,h2,h3⟩
   ·exact .inl (wK h.size h1)
   ·cases hm:m r₀ with
    |none=>
     rcases h.ax r₀ p₀ h1 hm with h4|⟨r₁,p₁,h4,h5,h6⟩
     ·exact .inl (by rw[←h3];exact h4)
     ·exact .inr ⟨r₁,p₁,h4,h5,h6.trans h3⟩
    |some q=>
     have:q=p₀:=by have:=h.le r₀ q hm;rw[h1]at this;cases this;rfl
     subst this
     exact .inr ⟨r₀,q,hm,by rw[←h.lo];exact h2,h3⟩
  |some q=>
   have:q=p:=by have:=h'.le r q eE;rw[hp]at this;cases this;rfl
   subst this
   exact h.ax r q eE hn
 ·refine(h'.frame b (wq hb h.size) fun r p hp hr iy=>?_).trans (h.frame b hb hf)
  cases hm:m r with
  |none=>
   rcases h.ax r p hp hm with h1|⟨r₀,p₀,h1,h2,h3⟩
   ·omega
   ·exact hf r₀ p₀ h1 h2 (h3.trans iy)
  |some q=>
   have:q=p:=by have:=h.le r q hm;rw[hp]at this;cases this;rfl
   subst this
   exact hf r q hm (by rw[←h.lo];exact hr) iy
 ·exact h.low r o hr (h'.low r o (by rw[h.lo];exact hr) ho)
end
section
variable[Maps]{B lo0:Nat}{m:Match}{H:Heap}{w:World}
def eD(m:Match)(k:Nat)(p:dV):Match:=fun r=>if r=k then some p else m r
end
section
variable{B lo0:Nat}{m:Match}{w:World}{P:Program}
theorem jE(m:Match)(k:Nat)(p:dV):eD m k p k=some p:=by simp[eD]
theorem oV{m:Match}{k:Nat}(p:dV)(h:m k=none):m.le (eD m k p):=by
 intro r q hq
 by_cases hr:r=k
 ·rw[hr,h]at hq;cases hq
 ·simp[eD,hr,hq]
end
section
variable[Maps]{B lo0:Nat}{m:Match}{H:Heap}{w:World}
theorem Rel.xZ(hR:Rel B lo0 m H w){w':World}(h:∀ b,b<B→w'.heap[b]? =w.heap[b]?):GN≤B∧GL w':=⟨hR.fJ.1,Md (fun b hb=>h b (wq hb hR.fJ.1)) hR.fJ.2⟩
theorem Rel.oW(hR:Rel B lo0 m H w):m H.next=none:=by
 cases h:m H.next with
 |none=>rfl
 |some p=>exact absurd (hR.dom _ _ h).1 (Nat.lt_irrefl _)
theorem Good.same(hR:Rel B lo0 m H w){w':World}(hh:w'.heap=w.heap)(fu:w'.os=w.os∧w'.output=w.output):Good B lo0 m H w m H w':=by
 have dn:∀ r p o,m r=some p→H.objs.get r=some o→iZ (decide (lo0≤r)) m p w' o:=fun r p o h1 h2=>(hR.obj r p o h1 h2).mono m.le_refl (by rw[hh])
 exact⟨m.le_refl,{hR with fJ:=hR.xZ fun _ _=>by rw[hh],base:=by rw[hh];exact hR.base,dom:=by rw[hh];exact hR.dom,obj:=dn},fun _ _ h=> .inl h,fun r p h h'=>(by rw[h]at h';cases h'),wy _,rfl,
  fun _ _ _=>by rw[hh],by rw[hh];exact wy _,fun _ _ _ h=>h,fu⟩
theorem Good.Uy(hR:Rel B lo0 m H w){H':Heap}{w':World}(o:AObj)(p:dV)(hp:w.heap.size≤p.ax)(oI:p.ax<w'.heap.size)(hlt:∀ b,b<w.heap.size→w'.heap[b]? =w.heap[b]?)(bh:w.heap.size≤w'.heap.size)(fu:w'.os=w.os∧w'.output=w.output)
  (dn:iZ true (eD m H.next p) p w' o) (hn:H'.next=H.next+1) (hl:H'.lo=H.lo)
  (hg:∀ j x,H'.objs.get j=some x→(j=H.next∧x=o)∨(j≠H.next∧H.objs.get j=some x))
  (zW:∀ g l,H'.grps.get g=some l→g=H.next∨H.grps.get g=some l)
  (ho:∀ c g z t,o= .row c (some (g,z)) t→g=H.next∧t=true):
  Good B lo0 m H w (eD m H.next p) H' w':=by
 have oG:=hR.oW
 have cp:=oV p oG
 have cJ:∀ r q,eD m H.next p r=some q→(r=H.next∧q=p)∨(r≠H.next∧m r=some q):=fun r q h=>by
  by_cases hr:r=H.next
  ·simp[eD,hr]at h;exact .inl ⟨hr,h.symm⟩
  ·simp[eD,hr]at h;exact .inr ⟨hr,h⟩
 have aj:lo0≤H.next:=wK hR.lo hR.ag
 refine⟨cp,⟨wK hR.base bh,by rw[hl];exact hR.lo,by rw[hl,hn];exact Nat.le_succ_of_le hR.ag,?_,?_,?_,?_,?_,?_,?_,hR.xZ fun b hb=>hlt b (wq hb hR.base)⟩,?_,?_,by omega,hl,
  fun b hb _=>hlt b hb,by omega,?_,fu⟩
 ·intro r q h
  rcases cJ r q h with⟨rfl,rfl⟩|⟨h1,h2⟩
  ·exact⟨by omega,by omega,fun _=>wK hR.base hp,fun h=>by omega⟩
  ·have:=hR.dom r q h2
   exact⟨by omega,by omega,this.2.2⟩
 ·intro r q x h hx
  rcases hg r x hx with⟨rfl,rfl⟩|⟨h1,h2⟩
  ·have:q=p:=by rw[jE]at h;cases h;rfl
   subst this
   rw[wz aj];exact dn
  ·rcases cJ r q h with⟨rfl,_⟩|⟨_,h3⟩
   ·exact absurd rfl h1
   ·exact(hR.obj r q x h3 h2).mono cp (hlt _ (hR.dom r q h3).2.1)
 ·intro r r' q q' x x' a9 hr h h' hx cI hb
  rcases cJ r q h with⟨rfl,rfl⟩|⟨h1,h2⟩
  ·rcases cJ r' q' h' with⟨rfl,_⟩|⟨_,h4⟩
   ·exact absurd rfl a9
   ·have:=(hR.dom r' q' h4).2.1;omega
  ·rcases cJ r' q' h' with⟨rfl,rfl⟩|⟨h3,h4⟩
   ·have:=(hR.dom r q h2).2.1;omega
   ·refine hR.sep r r' q q' x x' a9 hr h2 h4 ?_ ?_ hb
    ·rcases hg r x hx with⟨h5,_⟩|⟨_,h5⟩
     ·exact absurd h5 h1
     ·exact h5
    ·rcases hg r' x' cI with⟨h5,_⟩|⟨_,h5⟩
     ·exact absurd h5 h3
     ·exact h5
 ·intro r r' q q' c c' g z z' h h' hx cI
  rcases hg r _ hx with⟨h1,h2⟩|⟨h1,h2⟩<;>rcases hg r' _ cI with⟨h3,h4⟩|⟨h3,h4⟩
  ·rw[h1,h3]
  ·have e:=(ho _ _ _ _ h2.symm).1
   rcases cJ r' q' h' with⟨h5,_⟩|⟨_,h5⟩
   ·exact absurd h5 h3
   ·have:=hR.bH r' q' _ _ _ _ h5 h4;omega
  ·have e:=(ho _ _ _ _ h4.symm).1
   rcases cJ r q h with⟨h5,_⟩|⟨_,h5⟩
   ·exact absurd h5 h1
   ·have:=hR.bH r q _ _ _ _ h5 h2;omega
  ·rcases cJ r q h with⟨h5,_⟩|⟨_,h5⟩
   ·exact absurd h5 h1
   ·rcases cJ r' q' h' with⟨h6,_⟩|⟨_,h6⟩
    ·exact absurd h6 h3
    ·exact hR.dF r r' q q' c c' g z z' h5 h6 h2 h4
 ·intro r q c g z h hx l ia
  rcases hg r _ hx with⟨h1,h2⟩|⟨h1,h2⟩
  ·have:=(ho _ _ _ _ h2.symm).2;cases this
  ·rcases cJ r q h with⟨h5,_⟩|⟨_,h5⟩
   ·exact absurd h5 h1
   ·rcases zW g l ia with h6|h6
    ·have:=hR.bH r q _ _ _ _ h5 h2;omega
    ·exact hR.aS r q c g z h5 h2 l h6
 ·intro r r' q q' c c' g z z' t h h' hx cI hb
  rcases hg r _ hx with⟨h1,h2⟩|⟨h1,h2⟩<;>rcases hg r' _ cI with⟨h3,h4⟩|⟨h3,h4⟩
  ·subst h1;subst h3
   rw[h']at h;cases h
   rw[←h2]at h4;cases h4
   exact wy _
  ·have e:=(ho _ _ _ _ h2.symm).1
   rcases cJ r' q' h' with⟨h5,_⟩|⟨_,h5⟩
   ·exact absurd h5 h3
   ·have:=hR.bH r' q' _ _ _ _ h5 h4;omega
  ·have e:=(ho _ _ _ _ h4.symm).1
   rcases cJ r q h with⟨h5,_⟩|⟨_,h5⟩
   ·exact absurd h5 h1
   ·have:=hR.bH r q _ _ _ _ h5 h2;omega
  ·rcases cJ r q h with⟨h5,_⟩|⟨_,h5⟩
   ·exact absurd h5 h1
   ·rcases cJ r' q' h' with⟨h6,_⟩|⟨_,h6⟩
    ·exact absurd h6 h3
    ·exact hR.ends r r' q q' c c' g z z' t h5 h6 h2 h4 hb
 ·intro r q c g z t h hx
  rcases hg r _ hx with⟨h1,h2⟩|⟨h1,h2⟩
  ·have:=(ho _ _ _ _ h2.symm).1;omega
  ·rcases cJ r q h with⟨h5,_⟩|⟨_,h5⟩
   ·exact absurd h5 h1
   ·have:=hR.bH r q _ _ _ _ h5 h2;omega
 ·intro r q h
  rcases cJ r q h with⟨rfl,rfl⟩|⟨_,h2⟩
  ·exact .inr ⟨oG,wy _⟩
  ·exact .inl h2
 ·intro r q h hm
  rcases cJ r q h with⟨rfl,rfl⟩|⟨_,h2⟩
  ·exact .inl (by omega)
  ·rw[hm]at h2;cases h2
 ·intro r x hr hx
  rcases hg r x hx with⟨h1,_⟩|⟨_,h2⟩
  ·have:=hR.ag;omega
  ·exact h2
theorem Good.add(hR:Rel B lo0 m H w){H':Heap}{w':World}(O:Obj)(o:AObj)(p:dV)(hp:p.ax=w.heap.size)(hw:w'.heap=w.heap.push O)(fu:w'.os=w.os∧w'.output=w.output)
  (dn:iZ true (eD m H.next p) p w' o) (hn:H'.next=H.next+1) (hl:H'.lo=H.lo)
  (hg:∀ j x,H'.objs.get j=some x→(j=H.next∧x=o)∨(j≠H.next∧H.objs.get j=some x))
  (zW:∀ g l,H'.grps.get g=some l→g=H.next∨H.grps.get g=some l)
  (ho:∀ c g z t,o= .row c (some (g,z)) t→g=H.next∧t=true):Good B lo0 m H w (eD m H.next p) H' w':=by
 have bh:w'.heap.size=w.heap.size+1:=by rw[hw];simp
 exact Good.Uy hR o p (by omega) (by omega) (fun b hb=>by rw[hw,wbD,wI (by omega)]) (by omega) fu dn hn hl hg zW ho
theorem FC{H:Heap}{o x:AObj}{j:Nat}(h:(H.add o).objs.get j=some x):(j=H.next∧x=o)∨(j≠H.next∧H.objs.get j=some x):=by
 simp only[Heap.add,fb,Tr.force_eq]at h
 exact Tr.dq h
theorem ja(H:Heap)(o:AObj):(H.add o).next=H.next+1:=by simp[Heap.add,fb,Tr.force_eq]
theorem vw(H:Heap)(o:AObj):(H.add o).lo=H.lo:=by simp[Heap.add,fb,Tr.force_eq]
theorem zM(H:Heap)(o:AObj):(H.add o).grps=H.grps:=by simp[Heap.add,fb,Tr.force_eq]
theorem Good.added(hR:Rel B lo0 m H w){w':World}(O:Obj)(o:AObj)(p:dV)(hp:p.ax=w.heap.size)(hw:w'.heap=w.heap.push O)(fu:w'.os=w.os∧w'.output=w.output)
  (dn:iZ true (eD m H.next p) p w' o) (ho:∀ c g t,o≠ .row c (some g) t):Good B lo0 m H w (eD m H.next p) (H.add o) w':=
 Good.add hR O o p hp hw fu dn (ja H o) (vw H o) (fun j x=>FC) (fun g l h=> .inr (by rw[zM]at h;exact h)) (fun c g z t h=>absurd h (ho c (g,z) t))
theorem Good.newRow(hR:Rel B lo0 m H w){w':World}{cells:List Value}{C:Array Value}(e:TypeId)(hw:w'.heap=w.heap.push (.cells C e))(fu:w'.os=w.os∧w'.output=w.output)
  (hc:LRel m cells C.toList):Good B lo0 m H w (eD m H.next ⟨w.heap.size,0,C.size,true,0⟩) (H.newRow cells) w':=by
 refine Good.added hR _ _ _ rfl hw fu ⟨⟨C,e,(0,0),by rw[hw];simp,rfl,fun _ i _ h=>by simp at h,by simp[hc.1],fun i v hv=>?_⟩,rfl,fun g z h=>by cases h⟩ (fun c g t h=>by simp at h)
 obtain⟨v',h1,h2⟩:=hc.get hv
 exact⟨v',by simpa using h1,h2.mono (oV _ hR.oW)⟩
theorem Good.eD(hR:Rel B lo0 m H w){r:Nat}{p:dV}{o o':AObj}{H':Heap}{w':World}(hm:m r=some p)(hr:H.lo≤r)(ho:H.objs.get r=some o)
  (hn:H'.next=H.next) (hl:H'.lo=H.lo)
  (iK:∀ j x,H'.objs.get j=some x→(j=r∧x=o')∨(j≠r∧H.objs.get j=some x))
  (CL:∀ g l,H'.grps.get g=some l→H.grps.get g=some l∨∀ j q c z,m j=some q→H'.objs.get j=some (.row c (some (g,z)) false)→False)
  (gU:∀ j q x,j≠r→m j=some q→H'.objs.get j=some x→q.ax≠p.ax)
  (pq:∀ c g t,o'= .row c g t→∃ c₀,o= .row c₀ g t∧c₀.length=c.length)
  (dn:H'.objs.get r=some o'→iZ true m p w' o') (F0:∀ b,b≠p.ax→w'.heap[b]? =w.heap[b]?) (bh:w'.heap.size=w.heap.size) (fu:w'.os=w.os∧w'.output=w.output):
  Good B lo0 m H w m H' w':=by
 have aj:lo0≤r:=wK hR.lo hr
 have aG:∀ j c g t,H'.objs.get j=some (.row c g t)→∃ c₀,H.objs.get j=some (.row c₀ g t)∧c₀.length=c.length:=fun j c g t h=>by
  rcases iK j _ h with⟨rfl,h2⟩|⟨_,h2⟩
  ·obtain⟨c₀,h3,h4⟩:=pq c g t h2.symm
   exact⟨c₀,by rw[ho,h3],h4⟩
  ·exact⟨c,h2,rfl⟩
 refine⟨m.le_refl,⟨by rw[bh];exact hR.base,by rw[hl];exact hR.lo,by rw[hl,hn];exact hR.ag,by rw[hn,bh];exact hR.dom,?_,?_,?_,?_,?_,?_,hR.xZ fun b hb=>F0 b fun h=>by have:=(hR.dom r p hm).2.2.1 aj;omega⟩,fun _ _ h=> .inl h,
  fun r p h h'=>(by rw[h]at h';cases h'),by omega,hl,fun b _ hf=>F0 b fun h=>hf r p hm hr h.symm,by omega,?_,fu⟩
 ·intro j q x hj hx
  rcases iK j x hx with⟨rfl,rfl⟩|⟨h1,h2⟩
  ·have:q=p:=by rw[hm]at hj;cases hj;rfl
   subst this
   rw[wz aj];exact dn hx
  ·exact(hR.obj j q x hj h2).mono m.le_refl (F0 _ (gU j q x h1 hj hx))
 ·intro j j' q q' x x' a9 hj h h' hx cI hb
  rcases iK j x hx with⟨rfl,rfl⟩|⟨h1,h2⟩
  ·have:q=p:=by rw[hm]at h;cases h;rfl
   subst this
   exact absurd hb.symm (gU j' q' x' (wbl a9) h' cI)
  ·rcases iK j' x' cI with⟨rfl,rfl⟩|⟨h3,h4⟩
   ·have:q'=p:=by rw[hm]at h';cases h';rfl
    subst this
    exact absurd hb (gU j q x a9 h hx)
   ·exact hR.sep j j' q q' x x' a9 hj h h' h2 h4 hb
 ·intro j j' q q' c c' g z z' h h' hx cI
  obtain⟨d,h1,_⟩:=aG _ _ _ _ hx
  obtain⟨d',h2,_⟩:=aG _ _ _ _ cI
  exact hR.dF j j' q q' d d' g z z' h h' h1 h2
 ·intro j q c g z h hx l ia
  obtain⟨d,h1,_⟩:=aG _ _ _ _ hx
  rcases CL g l ia with h2|h2
  ·exact hR.aS j q d g z h h1 l h2
  ·exact(h2 j q c z h hx).elim
 ·intro j j' q q' c c' g z z' t h h' hx cI hb
  obtain⟨d,h1,e1⟩:=aG _ _ _ _ hx
  obtain⟨d',h2,e2⟩:=aG _ _ _ _ cI
  rw[←e1,←e2]
  exact hR.ends j j' q q' d d' g z z' t h h' h1 h2 hb
 ·intro j q c g z t h hx
  obtain⟨d,h1,_⟩:=aG _ _ _ _ hx
  rw[hn]
  exact hR.bH j q d g z t h h1
 ·intro j x hj hx
  rcases iK j x hx with⟨rfl,_⟩|⟨_,h2⟩
  ·omega
  ·exact h2
end
section
variable[Maps]{B lo0:Nat}{m:Match}{H:Heap}{w:World}{P:Program}
end
section
variable{B lo0:Nat}{m:Match}{w:World}{P:Program}
theorem cell?_at{w:World}{b:Nat}{C:Array Value}{e:TypeId}{fr:Nat×Nat}(h:w.heap[b]? =some (.cells C e fr))(i:Nat):w.cell? ⟨b,i,none⟩=C[i]? :=by
 simp[World.cell?,h]
theorem frozen?_at{w:World}{b:Nat}{C:Array Value}{e:TypeId}{fr:Nat×Nat}(h:w.heap[b]? =some (.cells C e fr))(i:Nat)(hn:¬ (fr.1≤i∧i<fr.2)):w.frozen? ⟨b,i,none⟩=false:=by
 obtain⟨lo,hi⟩:=fr
 simp only[World.frozen?,h]
 simp only[Bool.and_eq_false_imp,wT,wal]
 intro h1 h2
 exact hn ⟨h1,h2⟩
theorem add_plain(b o n:Nat):Addr.add ⟨b,o,none⟩ n=⟨b,o+n,none⟩:=by
 unfold Addr.add
 split
 ·rename_i h;subst h;rfl
 ·rfl
theorem Vk{v:Value}(h:isCell v=true):v.oneCell'=true:=by cases v<;>simp_all[isCell,Value.oneCell']
theorem E0{m:Match}{v v':Value}(h:VRel m v v'):isCell v'=isCell v:=by cases h<;>rfl
end
section
variable[Maps]{B lo0:Nat}{m:Match}{H:Heap}{w:World}{P:Program}
def lh(C:Array Value)(o:Nat)(new:List Value):Array Value:=
 (C.toList.take o++new++C.toList.drop (o+new.length)).toArray
end
section
variable{B lo0:Nat}{m:Match}{w:World}{P:Program}
theorem xM{C:Array Value}{o:Nat}{new:List Value}(h:o+new.length≤C.size):(lh C o new).size=C.size:=by
 simp[lh];omega
theorem uS{C:Array Value}{o:Nat}{new:List Value}(h:o+new.length≤C.size)(i:Nat):
  (lh C o new)[i]? =if o≤i∧i<o+new.length then new[i-o]? else C[i]? :=by
 have h1:(C.toList.take o).length=o:=by simp;omega
 simp only[lh,List.getElem?_toArray]
 by_cases ha:i<o
 ·rw[wI (by omega),waP,waf (by omega),wab,wF ha];simp
 ·by_cases hb:i<o+new.length
  ·rw[wF ⟨by omega,hb⟩,waf (by simp;omega),waB (by omega),h1]
  ·rw[wI (by omega),waB (by simp;omega),wae]
   have:(List.take o C.toList++new).length=o+new.length:=by simp;omega
   rw[this,show o+new.length+(i-(o+new.length))=i by omega];simp
end
section
variable[Maps]{B lo0:Nat}{m:Match}{H:Heap}{w:World}{P:Program}
def dR(w:World)(b:Nat)(O:Obj):World:={w with heap:=w.heap.setIfInBounds b O}
end
section
variable{B lo0:Nat}{m:Match}{w:World}{P:Program}
theorem nK{w:World}{b:Nat}(O:Obj)(h:b<w.heap.size):(dR w b O).heap[b]? =some O:=by simp[dR,h]
theorem uR{w:World}{b c:Nat}(O:Obj)(h:c≠b):(dR w b O).heap[c]? =w.heap[c]? :=by
 simp only[dR,wbA];rw[wI (wbl h)]
theorem xL{w:World}{b:Nat}(O:Obj):(dR w b O).heap.size=w.heap.size:=by simp[dR]
theorem M7{w:World}{b:Nat}{O:Obj}(h:w.heap[b]? =some O):dR w b O=w:=by
 unfold dR
 have:w.heap.setIfInBounds b O=w.heap:=by
  apply wcp
  intro i
  rw[wbA]
  split
  ·rename_i hi;subst hi
   have hlt:b<w.heap.size:=(w0.1 h).1
   simp[hlt,(w0.1 h).2]
  ·rfl
 rw[this]
theorem Vl{w:World}{b:Nat}(O O':Obj):dR (dR w b O) b O'=dR w b O':=by
 unfold dR
 congr 1
 apply wcp
 intro i
 simp only[wbA,Array.size_setIfInBounds]
 split<;>rfl
theorem Vm{w:World}{b i:Nat}{C:Array Value}{e:TypeId}{fr:Nat×Nat}{v:Value}(h:w.heap[b]? =some (.cells C e fr)):
  w.setCell ⟨b,i,none⟩ v=dR w b (.cells (C.setIfInBounds i v) e fr):=by
 have hlt:b<w.heap.size:=(w0.1 h).1
 unfold World.setCell dR
 congr 1
 apply wcp
 intro j
 simp only[wcI,wbA]
 split
 ·rename_i hj;subst hj;simp[h]
 ·rfl
theorem Vn{C:Array Value}{o:Nat}{v:Value}{new:List Value}(h:o+(new.length+1)≤C.size):lh (C.setIfInBounds o v) (o+1) new=lh C o (v::new):=by
 apply wcp
 intro i
 rw[uS (by simp;omega),uS (by simp;omega)]
 by_cases h1:o+1≤i∧i<o+1+new.length
 ·rw[wF h1,wF (by simp;omega),show i-o=(i-(o+1))+1 by omega];simp
 ·rw[wI h1]
  by_cases h2:i=o
  ·subst h2;rw[wF (by simp)];simp[show i<C.size by omega]
  ·rw[wI (by simp;omega),wbA,wI (by omega)]
theorem Ci{b:Nat}{e:TypeId}{fr:Nat×Nat}{o:Nat}:∀ (new:List Value) (i:Nat) (w:World) (C:Array Value),w.heap[b]? =some (.cells C e fr)→o+i+new.length≤C.size→
  (∀j,o+i≤j→j<o+i+new.length→¬ (fr.1≤j∧j<fr.2))→new.all isCell=true→
  (storeCells ⟨b,o,none⟩ new i).run P w= .ok () (dR w b (.cells (lh C (o+i) new) e fr))
 |[],i,w,C,h,hs,_,_=>by
  have:lh C (o+i) []=C:=by
   apply wcp;intro j;rw[uS (by simpa using hs)];rw[wI (by simp only[waA];omega)]
  simp only[storeCells,wC,this,M7 h]
 |v::new,i,w,C,h,hs,hf,hc=>by
  simp only[wbu,wA]at hc
  simp only[wY]at hs hf
  have kS:=cell?_at h (o+i)
  have Aj:C[o+i]? =some C[o+i]:=wa0 (by omega)
  have cQ:=frozen?_at h (o+i) (hf _ (wy _) (by omega))
  have h':(dR w b (.cells (C.setIfInBounds (o+i) v) e fr)).heap[b]? =some (.cells (C.setIfInBounds (o+i) v) e fr):=nK _ (w0.1 h).1
  have ih:=Ci (o:=o) new (i+1) _ _ h' (by simp;omega) (fun j h1 h2=>hf j (by omega) (by omega)) hc.2
  simp only[storeCells,wB,add_plain,run_store P w _ v _ (Vk hc.1),kS,Aj,cQ,Result.andThen,wG,waa,Vm h,ih,Vl]
  rw[show o+(i+1)=o+i+1 by omega,Vn (by omega)]
theorem Df{new:List Value}:∀ (o:Nat) (l:List Value),o+new.length≤l.length→(over new o l).length=l.length
 |0,l,h=>by simp[over];omega
 |o+1,x::l,h=>by simp only[over,wY]at *;rw[Df (new:=new) o l (by omega)]
 |o+1,[],h=>by simp at h
theorem Dg{new:List Value}:∀ (o:Nat) (l:List Value),o+new.length≤l.length→∀ i,(over new o l)[i]? =if o≤i∧i<o+new.length then new[i-o]? else l[i]?
 |0,l,h,i=>by
  simp only[over]
  by_cases hi:i<new.length
  ·rw[waf hi,wF ⟨by omega,by omega⟩];simp
  ·rw[waB (by omega),wI (by omega),wae];congr 1;omega
 |o+1,x::l,h,i=>by
  simp only[wY]at h
  cases i with
  |zero=>simp[over]
  |succ i=>
   simp only[over,wbo,Dg (new:=new) o l (by omega) i]
   by_cases h1:o≤i∧i<o+new.length
   ·rw[wF h1,wF (by omega)];congr 1;omega
   ·rw[wI h1,wI (by omega)]
 |o+1,[],h,i=>by simp at h
theorem th.over{cells new cG:List Value}{C:Array Value}{base o:Nat}(h:th m cells C base)(hn:LRel m new cG)(h1:o+new.length≤cells.length)(h2:base+cells.length≤C.size):
  th m (over new o cells) (lh C (base+o) cG) base:=by
 intro i v hv
 rw[Dg o cells h1]at hv
 rw[uS (by rw[←hn.1];omega),←hn.1]
 by_cases hi:o≤i∧i<o+new.length
 ·rw[wF hi]at hv
  rw[wF (by omega),show base+i-(base+o)=i-o by omega]
  exact hn.get hv
 ·rw[wI hi]at hv
  rw[wI (by omega)]
  exact h i v hv
end
section
variable[Maps]{B lo0:Nat}{m:Match}{H:Heap}{w:World}{P:Program}
theorem Gd{lo:Nat}:∀ {l:List Nat} {t t':Tr AObj},tx lo t l=some t'→∀ j x,t'.get j=some x→j∉l∧t.get j=some x
 |[],t,t',h,j,x,hx=>by simp[tx]at h;subst h;exact⟨by simp,hx⟩
 |k::l,t,t',h,j,x,hx=>by
  simp only[tx]at h
  cases hb:Nat.ble lo k with
  |false=>rw[hb]at h;simp at h
  |true=>
   rw[hb]at h
   obtain⟨h1,h2⟩:=Gd (by simpa using h) j x hx
   obtain⟨h3,h4⟩:=Tr.jm h2
   exact⟨by simp[h1,h3],h4⟩
end
section
variable{B lo0:Nat}{m:Match}{w:World}{P:Program}
theorem cM{α:Type}{b:Bool}{x:Option α}{y:α}(h:(bif b then none else x)=some y):b=false∧x=some y:=by
 cases b
 ·exact⟨rfl,h⟩
 ·simp at h
theorem cr{α:Type}{b:Bool}{x:Option α}{y:α}(h:(bif b then x else none)=some y):b=true∧x=some y:=by
 cases b
 ·simp at h
 ·exact⟨rfl,h⟩
end
section
variable[Maps]{B lo0:Nat}{m:Match}{H:Heap}{w:World}{P:Program}
theorem Heap.FO{r o:Nat}{new:List Value}{H':Heap}(h:H.write r o new=some H'):∃ cells bH,H.lo≤r∧new.all isCell=true∧H.objs.get r=some (.row cells bH true)∧o+new.length≤cells.length∧
  H'.next=H.next∧H'.lo=H.lo∧
  (match bH with
   |none=>(∀j x,H'.objs.get j=some x→(j=r∧x= .row (over new o cells) none true)∨(j≠r∧H.objs.get j=some x))∧H'.grps=H.grps
   |some (g,z)=>∃ aS,H.grps.get g=some aS∧(∀j x,H'.objs.get j=some x→(j=r∧x= .row (over new o cells) (some (g,z)) true)∨(j≠r∧j∉aS∧H.objs.get j=some x))∧
    (∀g' l,H'.grps.get g'=some l→(g'=g∧l=[])∨(g'≠g∧H.grps.get g'=some l))):=by
 unfold Heap.write at h
 obtain⟨h1,h⟩:=cM h
 simp only[wbM,waM]at h1
 split at h
 ·rename_i cells bH hr
  obtain⟨h2,h⟩:=cM h
  simp only[waM,wbi]at h2
  refine⟨cells,bH,by simpa using h1.1,h1.2,hr,h2,?_⟩
  split at h
  ·simp only[Tr.force_eq,wi]at h
   subst h
   exact⟨rfl,rfl,fun j x hx=>by rcases Tr.dq hx with h|h;exact .inl h;exact .inr h,rfl⟩
  ·rename_i g z
   split at h
   ·rename_i aS hold
    simp only[we,Tr.force_eq,wi]at h
    obtain⟨t,ht,h⟩:=h
    subst h
    refine⟨rfl,rfl,aS,hold,fun j x hx=>?_,fun g' l hl=>Tr.dq hl⟩
    rcases Tr.dq hx with h|⟨h3,h4⟩
    ·exact .inl h
    ·exact .inr ⟨h3,Gd ht j x h4⟩
   ·simp at h
 ·simp at h
theorem xJ(hR:Rel B lo0 m H w){r o:Nat}{p:dV}{new cG:List Value}{H':Heap}(hm:m r=some p)(h:H.write r o new=some H')(hn:LRel m new cG):
  ∃w',(storeCells ⟨p.ax,p.base+o,none⟩ cG).run P w= .ok () w'∧Good B lo0 m H w m H' w':=by
 obtain⟨cells,bH,h1,h2,h3,h4,h5,h6,h7⟩:=Heap.FO h
 have aj:lo0≤r:=wK hR.lo h1
 obtain⟨⟨C,e,fr,c1,c2,c3,c4,c5⟩,c6,c7⟩:=hR.obj r p _ hm h3
 have cP:cG.all isCell=true:=by
  rw[waC]at h2⊢
  intro v' dv
  obtain⟨i,hi⟩:=wbx.1 dv
  have hlt:i<new.length:=by rw[hn.1];exact(wD.1 hi).1
  rw[E0 (hn.2 i _ v' (wj hlt) hi)]
  exact h2 _ (wam hlt)
 have bE:=Ci (P:=P) (o:=p.base+o) cG 0 w C c1 (by rw[←hn.1];omega) (fun j _ h=>c3 (wz aj) j (by rw[←hn.1]at h;omega)) cP
 refine⟨_,bE,?_⟩
 have bh:C.size=(lh C (p.base+o+0) cG).size:=(xM (by rw[←hn.1];omega)).symm
 have dn:iZ true m p (dR w p.ax (.cells (lh C (p.base+o+0) cG) e fr)) (.row (over new o cells) bH true):=
  ⟨⟨_,e,fr,nK _ (w0.1 c1).1,by rw[←bh];exact c2,fun _ i hi=>c3 (wz aj) i (by omega),by rw[Df o cells h4,←bh];exact c4,c5.over hn h4 c4⟩,c6,c7⟩
 have Dh:∀ j q x,j≠r→m j=some q→H.objs.get j=some x→q.ax=p.ax→∃ g z z' c t,bH=some (g,z)∧x= .row c (some (g,z')) t:=by
  intro j q x hj hq hx hb
  have:=hR.sep r j p q _ x (wbl hj) aj hm hq h3 hx hb.symm
  cases bH with
  |none=>cases x<;>simp[Mates]at this
  |some gz=>
   obtain⟨g,z⟩:=gz
   cases x with
   |row c nU t=>
    cases nU with
    |none=>simp[Mates]at this
    |some F3=>obtain⟨g',z'⟩:=F3;simp only[Mates]at this;subst this;exact⟨g,z,z',c,t,rfl,rfl⟩
   |_=>simp[Mates]at this
 cases CL:bH with
 |none=>
  rw[CL]at h7 dn h3 Dh
  obtain⟨h7,h8⟩:=h7
  exact Good.eD hR hm h1 h3 h5 h6 h7 (fun g l hl=> .inl (by rw[h8]at hl;exact hl)) (fun j q x hj hq hx hb=>by
    rcases h7 j x hx with⟨h,_⟩|⟨_,h⟩
    ·exact hj h
    ·obtain⟨g,z,z',c,t,h9,_⟩:=Dh j q x hj hq h hb;cases h9)
   (fun c g t h=>by cases h;exact⟨cells,rfl,(Df o cells h4).symm⟩) (fun _=>dn) (fun b hb=>uR _ hb) (xL _) ⟨rfl,rfl⟩
 |some gz=>
  obtain⟨g,z⟩:=gz
  rw[CL]at h7 dn h3 Dh
  obtain⟨aS,h8,h9,aY⟩:=h7
  refine Good.eD hR hm h1 h3 h5 h6 (fun j x hx=>?_) (fun g' l hl=>?_) (fun j q x hj hq hx hb=>?_)
   (fun c g t h=>by cases h;exact⟨cells,rfl,(Df o cells h4).symm⟩) (fun _=>dn) (fun b hb=>uR _ hb) (xL _) ⟨rfl,rfl⟩
  ·rcases h9 j x hx with h|⟨h,_,h'⟩
   ·exact .inl h
   ·exact .inr ⟨h,h'⟩
  ·rcases aY g' l hl with⟨rfl,rfl⟩|⟨_,h⟩
   ·refine .inr fun j q c z' hq hx=>?_
    rcases h9 j _ hx with⟨_,h⟩|⟨_,h,h'⟩
    ·cases h
    ·exact h (hR.aS j q c g' z' hq h' aS h8)
   ·exact .inl h
  ·rcases h9 j x hx with⟨h,_⟩|⟨_,h,h'⟩
   ·exact hj h
   ·obtain⟨g',z₁,z',c,t,aV,bB⟩:=Dh j q x hj hq h' hb
    cases aV
    subst bB
    cases t with
    |true=>exact hj (hR.dF j r q p c cells g z' z hq hm h' h3)
    |false=>exact h (hR.aS j q c g z' hq h' aS h8)
end
variable[Maps]{B lo0:Nat}{m:Match}{H:Heap}{w:World}{P:Program}
theorem Heap.Uz{r:Nat}{c:List Value}{g z:Nat}{new:List Value}{H':Heap}(h:H.grow r c g z new=some H'):∃ aS,H.grps.get g=some aS∧H'.next=H.next+1∧H'.lo=H.lo∧
  (∀j x,H'.objs.get j=some x→(j=H.next∧x= .row new (some (g,z)) true)∨(j≠H.next∧j=r∧x= .row c (some (g,z)) false)∨(j≠H.next∧j≠r∧H.objs.get j=some x))∧
  (∀g' l,H'.grps.get g'=some l→(g'=g∧l=r::aS)∨(g'≠g∧H.grps.get g'=some l)):=by
 unfold Heap.grow at h
 split at h
 ·simp at h
 ·rename_i aS hold
  simp only[fb,Tr.force_eq,wi]at h
  subst h
  refine⟨aS,hold,rfl,rfl,fun j x hx=>?_,fun g' l hl=>Tr.dq hl⟩
  rcases Tr.dq hx with h|⟨h1,h2⟩
  ·exact .inl h
  ·rcases Tr.dq h2 with⟨h3,h4⟩|⟨h3,h4⟩
   ·exact .inr (.inl ⟨h1,h3,h4⟩)
   ·exact .inr (.inr ⟨h1,h3,h4⟩)
theorem Me{c:List Value}{bH:Option (Nat×Nat)}{t t':Bool}{y:AObj}(h:Mates (.row c bH t) y):Mates (.row c bH t') y:=by
 cases bH with
 |none=>exact h
 |some gz=>cases y with
  |row d nU s=>cases nU<;>exact h
  |_=>exact h
theorem Mf{c:List Value}{bH:Option (Nat×Nat)}{t t':Bool}{y:AObj}(h:Mates y (.row c bH t)):Mates y (.row c bH t'):=by
 cases bH with
 |none=>cases y with
  |row d nU s=>cases nU<;>exact h
  |_=>exact h
 |some gz=>cases y with
  |row d nU s=>cases nU<;>exact h
  |_=>exact h
theorem E1(hR:Rel B lo0 m H w){r:Nat}{p q:dV}{c:List Value}{g z:Nat}{new:List Value}{H':Heap}{w':World}(hm:m r=some p)(hr:H.lo≤r)
  (ho:H.objs.get r=some (.row c (some (g,z)) true)) (h:H.grow r c g z new=some H')
  (hw:∀ b,b<w.heap.size→b≠p.ax→w'.heap[b]? =w.heap[b]?) (bh:w.heap.size≤w'.heap.size) (F1:q.ax<w'.heap.size)
  (hold:∃ C C' e fr,w.heap[p.ax]? =some (.cells C e fr)∧w'.heap[p.ax]? =some (.cells C' e fr)∧C'.size=C.size∧∀ i,i<p.base+c.length→C'[i]? =C[i]?)
  (rE:(q.ax=p.ax∧p.base+c.length≤q.base+new.length)∨w.heap.size≤q.ax)
  (dn:iZ true (AM.eD m H.next q) q w' (.row new (some (g,z)) true)) (fu:w'.os=w.os∧w'.output=w.output):
  Good B lo0 m H w (AM.eD m H.next q) H' w':=by
 obtain⟨aS,h1,h2,h3,h4,h5⟩:=Heap.Uz h
 have oG:=hR.oW
 have cp:=oV q oG
 have aj:lo0≤r:=wK hR.lo hr
 have UA:lo0≤H.next:=wK hR.lo hR.ag
 have gF:r≠H.next:=fun e=>by rw[e,oG]at hm;cases hm
 have cJ:∀ j s,AM.eD m H.next q j=some s→(j=H.next∧s=q)∨(j≠H.next∧m j=some s):=fun j s h=>by
  by_cases hj:j=H.next
  ·simp[AM.eD,hj]at h;exact .inl ⟨hj,h.symm⟩
  ·simp[AM.eD,hj]at h;exact .inr ⟨hj,h⟩
 have CM:∀ j x,j≠H.next→H'.objs.get j=some x→∃ x₀,H.objs.get j=some x₀∧((j≠r∧x=x₀)∨(j=r∧x₀= .row c (some (g,z)) true∧x= .row c (some (g,z)) false)):=fun j x hj hx=>by
  rcases h4 j x hx with⟨h,_⟩|⟨_,h6,h7⟩|⟨_,h6,h7⟩
  ·exact absurd h hj
  ·subst h6;exact⟨_,ho,.inr ⟨rfl,rfl,h7⟩⟩
  ·exact⟨x,h7,.inl ⟨h6,rfl⟩⟩
 have F2:∀ j s x,j≠r→m j=some s→H.objs.get j=some x→s.ax=p.ax→∃ c' z' t,x= .row c' (some (g,z')) t∧s.base+c'.length≤p.base+c.length:=fun j s x hj hs hx hb=>by
  have:=hR.sep r j p s _ x (wbl hj) aj hm hs ho hx hb.symm
  cases x with
  |row c' nU t=>
   cases nU with
   |none=>simp[Mates]at this
   |some F3=>
    obtain⟨g',z'⟩:=F3
    simp only[Mates]at this
    subst this
    exact⟨c',z',t,rfl,hR.ends r j p s c c' g z z' t hm hs ho hx hb.symm⟩
  |_=>simp[Mates]at this
 have CN:∀ j s c' z',j≠r→m j=some s→H.objs.get j=some (.row c' (some (g,z')) true)→False:=fun j s c' z' hj hs hx=>hj (hR.dF j r s p c' c g z' z hs hm hx ho)
 refine⟨cp,⟨wK hR.base bh,by rw[h3];exact hR.lo,by rw[h2,h3];exact Nat.le_succ_of_le hR.ag,?_,?_,?_,?_,?_,?_,?_,hR.xZ fun b hb=>hw b (wq hb hR.base) fun e=>by have:=(hR.dom r p hm).2.2.1 aj;omega⟩,?_,?_,by omega,h3,
  fun b hb hf=>hw b hb fun e=>hf r p hm hr e.symm,bh,?_,fu⟩
 ·intro j s hj
  rcases cJ j s hj with⟨rfl,rfl⟩|⟨_,h6⟩
  ·refine⟨by omega,F1,fun _=>?_,fun h=>by omega⟩
   rcases rE with⟨h,_⟩|h
   ·rw[h];exact(hR.dom r p hm).2.2.1 aj
   ·exact wK hR.base h
  ·have:=hR.dom j s h6
   exact⟨by omega,by omega,this.2.2⟩
 ·intro j s x hj hx
  rcases cJ j s hj with⟨rfl,rfl⟩|⟨h6,h7⟩
  ·rcases h4 _ _ hx with⟨_,h⟩|⟨h,_⟩|⟨h,_⟩
   ·subst h;rw[wz UA];exact dn
   ·exact absurd rfl h
   ·exact absurd rfl h
  ·obtain⟨x₀,h8,h9⟩:=CM j x h6 hx
   have Mg:=hR.obj j s x₀ h7 h8
   by_cases hb:s.ax=p.ax
   ·obtain⟨C,C',e,fr,c1,c2,c3,c4⟩:=hold
    have UB:∃ c' nU t,x₀= .row c' nU t∧(∃t',x= .row c' nU t')∧s.base+c'.length≤p.base+c.length:=by
     rcases h9 with⟨aY,rfl⟩|⟨rfl,rfl,rfl⟩
     ·obtain⟨c',z',t,aV,bB⟩:=F2 j s x aY h7 h8 hb
      exact⟨c',_,t,aV,⟨t,aV⟩,bB⟩
     ·have:s=p:=by rw[hm]at h7;cases h7;rfl
      subst this
      exact⟨c,_,true,rfl,⟨false,rfl⟩,wy _⟩
    obtain⟨c',nU,t,rfl,⟨t',rfl⟩,cg⟩:=UB
    obtain⟨⟨D,e',bq,d1,d2,d3,d4,d5⟩,d6,d7⟩:=Mg
    rw[hb,c1]at d1
    simp only[wi,Obj.cells.injEq]at d1
    obtain⟨rfl,rfl,rfl⟩:=d1
    refine⟨⟨C',e,fr,by rw[hb];exact c2,by rw[c3];exact d2,by rw[c3];exact d3,by rw[c3];exact d4,fun i v hv=>?_⟩,d6,d7⟩
    obtain⟨v',e1,e2⟩:=d5 i v hv
    exact⟨v',by rw[c4 _ (by have:=(wD.1 hv).1;omega)];exact e1,e2.mono cp⟩
   ·have xT:=Mg.mono cp (hw _ (hR.dom j s h7).2.1 hb)
    rcases h9 with⟨_,rfl⟩|⟨_,rfl,rfl⟩
    ·exact xT
    ·exact xT
 ·intro j j' s s' x x' a9 hj hs mR hx cI hb
  rcases cJ j s hs with⟨rfl,rfl⟩|⟨h6,h7⟩
  ·have tY:x= .row new (some (g,z)) true:=by
    rcases h4 _ _ hx with⟨_,h⟩|⟨h,_⟩|⟨h,_⟩
    ·exact h
    ·exact absurd rfl h
    ·exact absurd rfl h
   subst tY
   rcases cJ j' s' mR with⟨rfl,_⟩|⟨h8,h9⟩
   ·exact absurd rfl a9
   ·rcases rE with⟨aY,_⟩|aY
    ·obtain⟨x₀,aV,bB⟩:=CM j' x' h8 cI
     rcases bB with⟨bP,rfl⟩|⟨_,_,rfl⟩
     ·obtain⟨c',z',t,rfl,_⟩:=F2 j' s' x' bP h9 aV (by rw[←hb,aY])
      rfl
     ·rfl
    ·have:=(hR.dom j' s' h9).2.1;omega
  ·obtain⟨x₀,h8,h9⟩:=CM j x h6 hx
   rcases cJ j' s' mR with⟨rfl,rfl⟩|⟨aY,aV⟩
   ·have tY:x'= .row new (some (g,z)) true:=by
     rcases h4 _ _ cI with⟨_,h⟩|⟨h,_⟩|⟨h,_⟩
     ·exact h
     ·exact absurd rfl h
     ·exact absurd rfl h
    subst tY
    rcases rE with⟨bB,_⟩|bB
    ·rcases h9 with⟨bP,rfl⟩|⟨_,_,rfl⟩
     ·obtain⟨c',z',t,rfl,_⟩:=F2 j s x bP h7 h8 (by rw[hb,bB])
      rfl
     ·rfl
    ·have:=(hR.dom j s h7).2.1;omega
   ·obtain⟨UC,bB,bP⟩:=CM j' x' aY cI
    have:=hR.sep j j' s s' x₀ UC a9 hj h7 aV h8 bB hb
    rcases h9 with⟨_,rfl⟩|⟨_,rfl,rfl⟩<;>rcases bP with⟨_,rfl⟩|⟨_,rfl,rfl⟩<;>first|exact this|exact Me this|exact Mf this|exact Me (Mf this)
 ·intro j j' s s' d d' g' z₁ z₂ hs mR hx cI
  rcases h4 j _ hx with⟨h6,h7⟩|⟨_,_,h7⟩|⟨h6,h7,h8⟩
  ·cases h7
   rcases h4 j' _ cI with⟨h9,_⟩|⟨_,_,aY⟩|⟨h9,aY,aV⟩
   ·rw[h6,h9]
   ·cases aY
   ·rcases cJ j' s' mR with⟨bB,_⟩|⟨_,bB⟩
    ·exact absurd bB h9
    ·exact(CN j' s' d' z₂ aY bB aV).elim
  ·cases h7
  ·rcases cJ j s hs with⟨h9,_⟩|⟨_,h9⟩
   ·exact absurd h9 h6
   ·rcases h4 j' _ cI with⟨aY,aV⟩|⟨_,_,aV⟩|⟨aY,aV,bB⟩
    ·cases aV
     exact(CN j s d z₁ h7 h9 h8).elim
    ·cases aV
    ·rcases cJ j' s' mR with⟨bP,_⟩|⟨_,bP⟩
     ·exact absurd bP aY
     ·exact hR.dF j j' s s' d d' g' z₁ z₂ h9 bP h8 bB
 ·intro j s d g' z' hs hx l hl
  rcases h4 j _ hx with⟨_,h7⟩|⟨_,h7,h8⟩|⟨h6,h7,h8⟩
  ·cases h7
  ·cases h8
   rcases h5 _ l hl with⟨_,rfl⟩|⟨h9,_⟩
   ·rw[h7];simp
   ·exact absurd rfl h9
  ·rcases cJ j s hs with⟨h9,_⟩|⟨_,h9⟩
   ·exact absurd h9 h6
   ·rcases h5 g' l hl with⟨rfl,rfl⟩|⟨_,aY⟩
    ·exact wM _ (hR.aS j s d g' z' h9 h8 aS h1)
    ·exact hR.aS j s d g' z' h9 h8 l aY
 ·intro j j' s s' d d' g' z₁ z₂ t hs mR hx cI hb
  rcases h4 j _ hx with⟨h6,h7⟩|⟨_,_,h7⟩|⟨h6,h7,h8⟩
  ·cases h7
   subst h6
   have UD:s=q:=by rw[jE]at hs;cases hs;rfl
   subst UD
   rcases h4 j' _ cI with⟨h9,aY⟩|⟨h9,aY,aV⟩|⟨h9,aY,aV⟩
   ·subst h9
    have:s'=s:=by rw[jE]at mR;cases mR;rfl
    subst this
    cases aY
    exact wy _
   ·subst aY
    cases aV
    rcases cJ j' s' mR with⟨bB,_⟩|⟨_,bB⟩
    ·exact absurd bB h9
    ·have:s'=p:=by rw[hm]at bB;cases bB;rfl
     subst this
     rcases rE with⟨_,bP⟩|bP
     ·exact bP
     ·have:=(hR.dom _ _ bB).2.1;omega
   ·rcases cJ j' s' mR with⟨bB,_⟩|⟨_,bB⟩
    ·exact absurd bB h9
    ·rcases rE with⟨bP,ki⟩|bP
     ·have:=hR.ends r j' p s' c d' _ _ z₂ t hm bB ho aV (by rw[←hb,bP])
      omega
     ·have:=(hR.dom _ _ bB).2.1;omega
  ·cases h7
  ·rcases cJ j s hs with⟨h9,_⟩|⟨_,h9⟩
   ·exact absurd h9 h6
   ·rcases h4 j' _ cI with⟨_,aV⟩|⟨aY,aV,bB⟩|⟨aY,aV,bB⟩
    ·cases aV
     exact(CN j s d z₁ h7 h9 h8).elim
    ·cases bB
     exact(CN j s d z₁ h7 h9 h8).elim
    ·rcases cJ j' s' mR with⟨bP,_⟩|⟨_,bP⟩
     ·exact absurd bP aY
     ·exact hR.ends j j' s s' d d' g' z₁ z₂ t h9 bP h8 bB hb
 ·intro j s d g' z' t hs hx
  rcases h4 j _ hx with⟨_,h7⟩|⟨_,_,h7⟩|⟨h6,_,h8⟩
  ·cases h7;have:=hR.bH r p c g z true hm ho;omega
  ·cases h7;have:=hR.bH r p c g z true hm ho;omega
  ·rcases cJ j s hs with⟨h9,_⟩|⟨_,h9⟩
   ·exact absurd h9 h6
   ·have:=hR.bH j s d g' z' t h9 h8;omega
 ·intro j s hs
  rcases cJ j s hs with⟨rfl,_⟩|⟨_,h6⟩
  ·exact .inr ⟨oG,wy _⟩
  ·exact .inl h6
 ·intro j s hs hn
  rcases cJ j s hs with⟨rfl,rfl⟩|⟨_,h6⟩
  ·rcases rE with⟨h7,_⟩|h7
   ·exact .inr ⟨r,p,hm,hr,h7.symm⟩
   ·exact .inl h7
  ·rw[hn]at h6;cases h6
 ·intro j x hj hx
  rcases h4 j x hx with⟨h6,_⟩|⟨_,h6,_⟩|⟨_,_,h6⟩
  ·have:=hR.ag;omega
  ·omega
  ·exact h6
end Go.AM
namespace Go.AM
section
variable[Maps]{m:Match}{w:World}{E:Env}
structure EnvOk(E:Env):Prop where
 ty:∀ t i,E.ty.get t=some i→∃ info,E.P.info? t=some info∧TI.of E.P t info=some i
 fn:∀ f g,E.fn.get f=some g→E.P.funcs[f]? =some g
 num:∀ f g,E.fn.get f=some g→(g.name== "runtime.NumGoroutine")=false
theorem EnvOk.of(P:Program)(hP:P.funcs.toList.all (fun f=> !(f.name== "runtime.NumGoroutine"))=true):EnvOk (Env.of P) where
 ty t i h:=by
  have h1:=Tr.VP h
  simp only[war,wa6]at h1
  obtain⟨⟨info,k⟩,h2,h3⟩:=h1
  rw[List.getElem?_zipIdx]at h2
  simp only[wau,wa6,wk]at h2
  obtain⟨x,h4,rfl,rfl⟩:=h2
  refine⟨x,?_,h3⟩
  have h5:P.types[t]? =some x:=by simpa using h4
  show P.info? t=some x
  unfold Tables.info?
  rw[wF (w0.1 h5).1]
  exact h5
 fn f g h:=by
  have h1:=Tr.zE h
  show P.funcs[f]? =some g
  simpa using h1
 num f g h:=by
  have h1:=Tr.zE h
  have h2:=waC.1 hP g (wag h1)
  simpa using h2
theorem EnvOk.inv(hE:EnvOk E){t:TypeId}{i:TI}(h:E.ty.get t=some i):∃ info,E.P.info? t=some info∧E.P.underlying t=some i.desc∧i.size=info.size∧i.bytes=info.bytes∧i.agg=isAggD i.desc∧
  (∀z,i.zero=some z→info.zero=some z∧plainV z=true)∧(i.cmp=true→E.P.stoodInHeld t=false∧E.P.eqGuardType E.P.depth t=false)∧i.fs=Lr i.desc:=by
 obtain⟨info,h1,h2⟩:=hE.ty t i h
 simp only[TI.of,we,wi]at h2
 obtain⟨d,h3,rfl⟩:=h2
 refine⟨info,h1,?_,rfl,rfl,rfl,fun z hz=>?_,fun hc=>?_,rfl⟩
 ·obtain⟨desc,str,size,bytes,hp,al,fa,zero,cmp,zh7⟩:=info
  unfold Program.underlying
  rw[h1]
  cases desc<;>simp only[descOf,wi]at h3<;>first|(subst h3;rfl)|skip
  rename_i n u
  simp only[we,wi]at h3
  obtain⟨j,h4,rfl⟩:=h3
  simp[h4]
 ·simp only at hz
  split at hz
  ·rename_i y hy
   obtain⟨h4,h5⟩:=cr hz
   simp only[wi]at h5
   subst h5
   exact⟨hy,h4⟩
  ·simp at hz
 ·simpa using hc
theorem EnvOk.desc(hE:EnvOk E){t:TypeId}{i:TI}(h:E.ty.get t=some i){d:TypeDesc}(hd:i.desc=d)(w:World):(underlying t).run E.P w= .ok d w:=by
 obtain⟨info,_,h2,_⟩:=hE.inv h
 exact waN (by rw[h2,hd]) w
theorem EnvOk.oF(hE:EnvOk E){t:TypeId}{i:TI}(h:E.ty.get t=some i)(w:World):(sizeOf t).run E.P w= .ok i.size w:=by
 obtain⟨info,h1,_,h3,_⟩:=hE.inv h
 rw[run_sizeOf w h1]
 simp[Program.cellsOf,h1,h3]
theorem EnvOk.size(hE:EnvOk E){t:TypeId}{n:Nat}(h:E.size t=some n)(w:World):(sizeOf t).run E.P w= .ok n w:=by
 simp only[Env.size,we,wi]at h
 obtain⟨i,h1,rfl⟩:=h
 exact hE.oF h1 w
theorem EnvOk.isAgg(hE:EnvOk E){t:TypeId}{i:TI}(h:E.ty.get t=some i)(w:World):(isAgg t).run E.P w= .ok i.agg w:=by
 obtain⟨info,_,h2,_,_,h5,_⟩:=hE.inv h
 simp only[Go.isAgg,wB,waN h2,wu,h5]
 cases i.desc<;>rfl
theorem EnvOk.zero(hE:EnvOk E){t:TypeId}{i:TI}{z:Value}(h:E.ty.get t=some i)(hz:i.zero=some z):plainV z=true∧∀ w,(zeroValue t).run E.P w= .ok z w:=by
 obtain⟨info,h1,_,_,_,_,h6,_⟩:=hE.inv h
 obtain⟨h7,h8⟩:=h6 z hz
 exact⟨h8,fun w=>by simp[zeroValue,run_typeInfo w h1,h7]⟩
theorem EnvOk.bytes(hE:EnvOk E){t:TypeId}{i:TI}(h:E.ty.get t=some i):∃ info,(∀w,(typeInfo t).run E.P w= .ok info w)∧info.bytes=i.bytes:=by
 obtain⟨info,h1,_,_,h4,_⟩:=hE.inv h
 exact⟨info,fun w=>run_typeInfo w h1,h4.symm⟩
end
section
variable{B lo0:Nat}{m:Match}{w:World}{P:Program}
theorem vA{k k':IntKind}(h:sameKind k k'=true):k=k':=by cases k<;>cases k'<;>first|rfl|simp[sameKind]at h
theorem Vv{op:BinOp}{k:IntKind}{a b:Int}{v:Value}(h:intOp op k a b=some v)(t:TypeId)(w:World)(P:Program):(binOp op t (.int k a) (.int k b)).run P w= .ok v w:=by
 cases op<;>simp only[intOp]at h
 case quo=>
  obtain⟨h1,h2⟩:=cM h
  rw[gI]at h1
  have hb:b≠0:=by intro e;subst e;simp at h1
  rw[kj h2]
  simp[binOp,Op.intDiv,hb]
 case rem=>
  obtain⟨h1,h2⟩:=cM h
  rw[gI]at h1
  have hb:b≠0:=by intro e;subst e;simp at h1
  simp only[rG,wi]at h2
  subst h2
  simp[binOp,Op.intDiv,hb]
 case shl=>simp at h
 case shr=>simp at h
 case add=>rw[kj h];simp[binOp,Op.intArith]
 case sub=>rw[kj h];simp[binOp,Op.intArith]
 case mul=>rw[kj h];simp[binOp,Op.intArith]
 case and=>rw[kj h];simp[binOp,Op.intBits]
 case or=>rw[kj h];simp[binOp,Op.intBits]
 case xor=>rw[kj h];simp[binOp,Op.intBits]
 case andNot=>rw[kj h];simp[binOp,Op.intBits]
 case eql=>simp only[wi]at h;subst h;simp[binOp,Op.intCmp,gI]
 case neq=>simp only[wi]at h;subst h;simp[binOp,Op.intCmp,gI];rfl
 case lss=>simp only[wi]at h;subst h;simp[binOp,Op.intCmp,qG]
 case leq=>simp only[wi]at h;subst h;simp[binOp,Op.intCmp,vP]
 case gtr=>simp only[wi]at h;subst h;simp[binOp,Op.intCmp,qG]
 case geq=>simp only[wi]at h;subst h;simp[binOp,Op.intCmp,vP]
theorem Ng{op:BinOp}{k k':IntKind}{a b:Int}{v:Value}(h:shiftOp op k a b=some v)(t:TypeId)(w:World)(P:Program):(binOp op t (.int k a) (.int k' b)).run P w= .ok v w:=by
 unfold shiftOp at h
 obtain⟨h1,h2⟩:=cM h
 rw[qG]at h1
 have hb:¬ b<0:=by simpa using h1
 cases op<;>simp only[reduceCtorEq]at h2
 case shl=>rw[kj h2];simp[binOp,Op.shift,hb]
 case shr=>simp only[rG,wi]at h2;subst h2;simp[binOp,Op.shift,hb]
theorem Vx{op:BinOp}{a b:ByteArray}{v:Value}(h:strOp op a b=some v)(t:TypeId)(w:World)(P:Program):(binOp op t (.string a) (.string b)).run P w= .ok v w:=by
 cases op<;>simp only[strOp,reduceCtorEq,wi]at h
 case add=>
  obtain⟨h1,h2⟩:=cr h
  simp only[wi]at h2
  subst h2
  simp only[wbi]at h1
  have:¬ ((a.size+b.size:Nat):Int)>IntKind.i64.max:=by simp[IntKind.max,IntKind.signed,IntKind.bits];omega
  simp only[binOp,Op.stringOp,wI this,wC]
 all_goals(subst h;simp[binOp,Op.stringOp,mL])
theorem Uo{op:UnOp}{x v:Value}(h:unV op x=some v)(w:World)(P:Program):(Op.unary op x).run P w= .ok v w:=by
 cases op<;>cases x<;>simp only[unV,reduceCtorEq]at h
 ·rw[kj h];simp[Op.unary,Op.intArith]
 ·simp only[intOp]at h;rw[kj h];simp[Op.unary,Op.intBits]
 ·simp only[wi]at h;subst h;simp[Op.unary]
theorem Un{op:UnOp}{x v:Value}(h:unV op x=some v)(m:Match){x':Value}(hx:VRel m x x'):x'=x∧VRel m v v:=by
 cases op<;>cases x<;>simp only[unV,reduceCtorEq]at h
 ·cases hx;exact⟨rfl,by rw[kj h];exact .int _ _⟩
 ·cases hx;simp only[intOp]at h;exact⟨rfl,by rw[kj h];exact .int _ _⟩
 ·cases hx;simp only[wi]at h;subst h;exact⟨rfl,.bool _⟩
theorem Vw{op:BinOp}{k:IntKind}{a b:Int}{v:Value}(h:intOp op k a b=some v)(m:Match):VRel m v v:=by
 cases op<;>simp only[intOp,reduceCtorEq]at h
 case quo=>rw[kj (cM h).2];exact .int _ _
 case rem=>obtain⟨_,h2⟩:=cM h;simp only[rG,wi]at h2;subst h2;exact .int _ _
 all_goals first|(rw[kj h];exact .int _ _)|(simp only[wi]at h;subst h;exact .bool _)
theorem Nh{op:BinOp}{k:IntKind}{a b:Int}{v:Value}(h:shiftOp op k a b=some v)(m:Match):VRel m v v:=by
 unfold shiftOp at h
 obtain⟨_,h2⟩:=cM h
 cases op<;>simp only[reduceCtorEq]at h2
 case shl=>rw[kj h2];exact .int _ _
 case shr=>simp only[rG,wi]at h2;subst h2;exact .int _ _
theorem Vy{op:BinOp}{a b:ByteArray}{v:Value}(h:strOp op a b=some v)(m:Match):VRel m v v:=by
 cases op<;>simp only[strOp,reduceCtorEq,wi]at h
 case add=>obtain⟨_,h2⟩:=cr h;simp only[wi]at h2;subst h2;exact .string _
 all_goals(subst h;exact .bool _)
end
section
variable[Maps]{m:Match}{w:World}{E:Env}
end
section
variable{B lo0:Nat}{m:Match}{w:World}{P:Program}
theorem xG{l:List Value}{o n:Nat}{r:List Value}(h:cut l o n=some r):o+n≤l.length∧r=(l.drop o).take n:=by
 unfold cut at h
 obtain⟨h1,h2⟩:=cr h
 simp only[wi]at h2
 exact⟨by simpa using h1,h2.symm⟩
theorem Cd{l:List Value}{o n:Nat}{r:List Value}(h:cut l o n=some r):r.length=n:=by
 obtain⟨h1,rfl⟩:=xG h
 simp;omega
end
section
variable[Maps]{m:Match}{w:World}{E:Env}
theorem Dp(hE:EnvOk E){t:TypeId}{cs:List Value}{off:Nat}{v:Value}(h:jj E t cs off=some v){iI:Array Value}(hc:LRel m cs iI.toList):
  ∃v',(∀w,(part t iI off).run E.P w= .ok v' w)∧VRel m v v':=by
 simp only[jj,we]at h
 obtain⟨i,h1,h2⟩:=h
 have mN:=hE.isAgg h1
 cases ha:i.agg with
 |true=>
  rw[ha]at h2 mN
  simp only[wai,we,wi]at h2
  obtain⟨l,h3,rfl⟩:=h2
  obtain⟨h4,rfl⟩:=xG h3
  refine⟨.agg (iI.extract off (off+i.size)),fun w=>by simp[part,mN,hE.oF h1],?_⟩
  have:iI.extract off (off+i.size)=((iI.toList.drop off).take i.size).toArray:=by
   apply wcJ;simp
  rw[this]
  exact .zU ((hc.drop off).take i.size)
 |false=>
  rw[ha]at h2 mN
  simp only[wS]at h2
  obtain⟨v',h3,h4⟩:=hc.get h2
  refine⟨v',fun w=>?_,h4⟩
  have:iI[off]? =some v':=by simpa using h3
  simp[part,mN,this]
end
section
variable[Maps]{m:Match}{w:World}{E:Env}
theorem GC(hE:EnvOk E){d D:Nat}(ih:∀ t x y b x' y',eqV E d t x y=some b→VRel m x x'→VRel m y y'→∀ w,(Op.equalIn D t x' y').run E.P w= .ok b w)
  {xs ys:List Value} {Dl Dm:Array Value} (hx:LRel m xs Dl.toList) (hy:LRel m ys Dm.toList):
  ∀(fs:List Field) (b:Bool),eqFields E (eqV E d) xs ys ((fs.filter fun f=>f.name != "_").map fun f=>(f.offset,f.type))=some b→∀ w,(Op.eqFields D Dl Dm fs).run E.P w= .ok b w
 |[],b,h,w=>by simp[eqFields]at h;subst h;simp[Op.eqFields]
 |f::fs,b,h,w=>by
  by_cases hn:f.name= "_"
  ·have hf:(f.name != "_")=false:=by simp[hn]
   rw[wce,hf]at h
   simp only[Op.eqFields,hn,ne_eq,wcC,waa]
   exact GC hE ih hx hy fs b (by simpa using h) w
  ·have hf:(f.name != "_")=true:=by simp[hn]
   rw[wce,hf]at h
   simp only[wah,wbk,eqFields,we]at h
   obtain⟨a,h1,c,h2,r,h3,h4⟩:=h
   obtain⟨a',h5,h6⟩:=Dp hE h1 hx
   obtain⟨c',h7,h8⟩:=Dp hE h2 hy
   have h9:=ih _ _ _ _ _ _ h3 h6 h8
   simp only[Op.eqFields,ne_eq,hn,not_false_eq_true,wah,wB,h5,h7,h9,wu]
   cases r with
   |true=>
    simp only[wa7,wG,waa]
    exact GC hE ih hx hy fs b h4 w
   |false=>
    simp only[wi]at h4
    subst h4
    simp
theorem Na(hE:EnvOk E):∀ (d k:Nat) (t:TypeId) (x y:Value) (b:Bool) (x' y':Value),eqV E d t x y=some b→VRel m x x'→VRel m y y'→∀ w,(Op.equalIn (d+k) t x' y').run E.P w= .ok b w
 |0,_,_,_,_,_,_,_,h,_,_=>by simp[eqV]at h
 |d+1,k,t,x,y,b,x',y',h,hx,hy=>by
  intro w
  rw[show d+1+k=(d+k)+1 by omega]
  simp only[eqV,we]at h
  obtain⟨i,h1,h2⟩:=h
  obtain⟨info,hi,hu,_,_,_,_,hc,Vq⟩:=hE.inv h1
  split at h2
  ·rename_i a c hd
   cases hx;cases hy
   simp only[wi]at h2;subst h2
   rw[hd]at hu
   simp[Op.equalIn,waN hu]
  ·rename_i k₀ j a j' c hd
   cases hx;cases hy
   obtain⟨h3,h4⟩:=cr h2
   have:=vA h3
   subst this
   simp only[wi]at h4;subst h4
   rw[hd]at hu
   simp[Op.equalIn,waN hu,gI]
  ·rename_i a c hd
   cases hx;cases hy
   simp only[wi]at h2;subst h2
   rw[hd]at hu
   simp[Op.equalIn,waN hu,mL,beq_toListBytes]
  ·rename_i e c hd
   cases hx
   simp only[wi]at h2;subst h2
   rw[hd]at hu
   cases hy<;>simp[Op.equalIn,waN hu]
  ·rename_i e c a9 hd
   cases hy
   simp only[wi]at h2;subst h2
   rw[hd]at hu
   cases hx with
   |vH=>exact(a9 rfl).elim
   |ptr h=>simp[Op.equalIn,waN hu]
  ·rename_i ms t' v hd
   cases hx;cases hy
   simp only[wi]at h2;subst h2
   rw[hd]at hu
   simp[Op.equalIn,waN hu]
  ·rename_i ms t' v hd
   cases hx;cases hy
   simp only[wi]at h2;subst h2
   rw[hd]at hu
   simp[Op.equalIn,waN hu]
  ·rename_i fs xs ys hd
   obtain⟨Dl,rfl,py⟩:=hx.Dq
   obtain⟨Dm,rfl,Nb⟩:=hy.Dq
   obtain⟨h3,h4⟩:=cr h2
   rw[hd]at hu
   have Nc:E.P.fieldsOf t=fs:=by simp[Program.fieldsOf,hu]
   rw[run_equalIn_struct w (d+k) t Dl Dm (by rw[Nc];exact hu) (hc h3).1,Nc]
   rw[Vq,hd]at h4
   exact GC hE (fun t x y b x' y' h hx hy=>Na hE d k t x y b x' y' h hx hy) py Nb fs.toList b h4 w
  ·rename_i e l c a hd
   cases hx
   simp only[wi]at h2;subst h2
   rw[hd]at hu
   cases hy<;>simp[Op.equalIn,waN hu]
  ·rename_i e l c a hd
   cases hy
   simp only[wi]at h2;subst h2
   rw[hd]at hu
   cases hx with
   |qk=>exact(‹none=none→False› rfl).elim
   |slice=>simp[Op.equalIn,waN hu]
   |empty=>simp[Op.equalIn,waN hu]
  ·rename_i a c e hd
   cases hx
   simp only[wi]at h2;subst h2
   rw[hd]at hu
   cases hy<;>simp[Op.equalIn,waN hu]
  ·rename_i a c e a9 hd
   cases hy
   simp only[wi]at h2;subst h2
   rw[hd]at hu
   cases hx with
   |vI=>exact(‹none=none→False› rfl).elim
   |map=>simp[Op.equalIn,waN hu]
  ·rename_i hd
   cases hx;cases hy
   simp only[wi]at h2;subst h2
   rw[hd]at hu
   simp[Op.equalIn,waN hu]
  ·rename_i hd
   cases hx;cases hy
   simp only[wi]at h2;subst h2
   rw[hd]at hu
   simp[Op.equalIn,waN hu]
  ·rename_i hd
   cases hx;cases hy
   simp only[wi]at h2;subst h2
   rw[hd]at hu
   simp[Op.equalIn,waN hu]
  ·simp at h2
theorem Vr{d:Nat}{t:TypeId}{xs ys:Array Value}{b:Bool}(h:eqV E d t (.agg xs) (.agg ys)=some b):∃ i,E.ty.get t=some i∧i.cmp=true:=by
 cases d with
 |zero=>simp[eqV]at h
 |succ d=>
  simp only[eqV,we]at h
  obtain⟨i,h1,h2⟩:=h
  refine⟨i,h1,?_⟩
  cases hd:i.desc<;>simp only[hd,reduceCtorEq]at h2
  exact(cr h2).1
theorem Nd(hE:EnvOk E){d:Nat}{op:BinOp}{t:TypeId}{x y:Operand}{a b a' b':Value}{r:Bool}(h:eqV E d t a b=some r)(ha:VRel m a a')(hb:VRel m b b')
  (hn:¬ (a= .nilIface∧b= .nilIface)) (w:World):(eqGuard op t x y a' b').run E.P w= .ok () w:=by
 unfold eqGuard
 cases ha<;>cases hb<;>first
  |(exact absurd ⟨rfl,rfl⟩ hn)
  |(cases op<;>simp;done)
  |(obtain⟨i,h1,h2⟩:=Vr h
    obtain⟨info,_,_,_,_,_,_,hc,_⟩:=hE.inv h1
    cases op<;>simp[run_program,(hc h2).2])
theorem Nf(hE:EnvOk E){d:Nat}{t:TypeId}{x y:Operand}{a b a' b':Value}{r:Bool}(h:eqV E d t a b=some r)(hd:d≤10000)(ha:VRel m a a')(hb:VRel m b b')
  (hi:∀ k n k' n',¬(a= .int k n∧b= .int k' n')) (hs:∀ s s',¬(a= .string s∧b= .string s')) (hn:¬ (a= .nilIface∧b= .nilIface)) (w:World):
  (do eqGuard .eql t x y a' b';binOp .eql t a' b':Sem Value).run E.P w= .ok (.bool r) w∧(do eqGuard .neq t x y a' b';binOp .neq t a' b':Sem Value).run E.P w= .ok (.bool (!r)) w:=by
 have mc:(Op.equal t a' b').run E.P w= .ok r w:=by
  have:=Na hE d (10000-d) t a b r a' b' h ha hb w
  rw[show d+(10000-d)=10000 by omega]at this
  exact this
 have h1:binOp .eql t a' b'=(do pure (.bool (←Op.equal t a' b')))∧binOp .neq t a' b'=(do pure (.bool (!(←Op.equal t a' b')))):=by
  cases ha<;>first
   |exact⟨rfl,rfl⟩
   |(cases hb<;>first|exact⟨rfl,rfl⟩|exact absurd ⟨rfl,rfl⟩ (hi _ _ _ _)|exact absurd ⟨rfl,rfl⟩ (hs _ _))
 constructor
 ·simp only[wB,Nd hE h ha hb hn w,wu,h1.1,mc,wC]
 ·simp only[wB,Nd hE h ha hb hn w,wu,h1.2,mc,wC]
end
section
variable{B lo0:Nat}{m:Match}{w:World}{P:Program}
theorem Vs{op:BinOp}{t:TypeId}{x y:Operand}(h:(isConst x||isConst y)=true)(w:World)(P:Program):(eqGuard op t x y .nilIface .nilIface).run P w= .ok () w:=by
 unfold eqGuard
 cases op<;>cases x<;>cases y<;>simp_all[isConst]
theorem Vt{op:BinOp}{t:TypeId}{x y:Operand}{k k':IntKind}{a b:Int}(w:World)(P:Program):(eqGuard op t x y (.int k a) (.int k' b)).run P w= .ok () w:=by
 unfold eqGuard;cases op<;>simp
theorem Vu{op:BinOp}{t:TypeId}{x y:Operand}{a b:ByteArray}(w:World)(P:Program):(eqGuard op t x y (.string a) (.string b)).run P w= .ok () w:=by
 unfold eqGuard;cases op<;>simp
end
section
variable[Maps]{m:Match}{w:World}{E:Env}
theorem Um(hE:EnvOk E){op:BinOp}{t:TypeId}{x y:Operand}{a b a' b' v:Value}(h:binV E op t x y a b=some v)(ha:VRel m a a')(hb:VRel m b b')(w:World):
  (do eqGuard op t x y a' b';binOp op t a' b':Sem Value).run E.P w= .ok v w∧VRel m v v:=by
 unfold binV at h
 split at h
 ·rename_i k n k' n'
  cases ha;cases hb
  simp only[wB,Vt,wu]
  split at h
  ·exact⟨Ng h t w _,Nh h m⟩
  ·exact⟨Ng h t w _,Nh h m⟩
  ·obtain⟨h1,h2⟩:=cr h
   have:=vA h1
   subst this
   exact⟨Vv h2 t w _,Vw h2 m⟩
 ·cases ha;cases hb
  simp only[wB,Vu,wu]
  exact⟨Vx h t w _,Vy h m⟩
 ·cases ha;cases hb
  obtain⟨h1,h2⟩:=cr h
  simp only[we]at h2
  obtain⟨i,h3,h4⟩:=h2
  obtain⟨info,_,hu,_⟩:=hE.inv h3
  have mc:∀ ms,E.P.underlying t=some (.interface ms)→(Op.equal t .nilIface .nilIface).run E.P w= .ok true w:=fun ms hu=>by
   have:∀ d,(Op.equalIn (d+1) t .nilIface .nilIface).run E.P w= .ok true w:=fun d=>by simp[Op.equalIn,waN hu]
   exact this 9999
  have b1:binOp .eql t .nilIface .nilIface=(do pure (.bool (←Op.equal t .nilIface .nilIface))):=rfl
  have b2:binOp .neq t .nilIface .nilIface=(do pure (.bool (!(←Op.equal t .nilIface .nilIface)))):=rfl
  simp only[wB,Vs h1,wu]
  split at h4
  ·rename_i hd
   rw[hd]at hu
   simp only[wi]at h4;subst h4
   rw[b1,wB,mc _ hu]
   exact⟨rfl,.bool _⟩
  ·rename_i hd
   rw[hd]at hu
   simp only[wi]at h4;subst h4
   rw[b2,wB,mc _ hu]
   exact⟨rfl,.bool _⟩
  ·simp at h4
 ·rename_i hi hs hn
  split at h
  ·simp only[we,wi]at h
   obtain⟨r,h1,rfl⟩:=h
   exact⟨(Nf hE h1 (by omega) ha hb (fun k n k' n' e=>hi _ _ _ _ e.1 e.2) (fun s s' e=>hs _ _ e.1 e.2) (fun e=>hn e.1 e.2) w).1,.bool _⟩
  ·simp only[we,wi]at h
   obtain⟨r,h1,rfl⟩:=h
   exact⟨(Nf hE h1 (by omega) ha hb (fun k n k' n' e=>hi _ _ _ _ e.1 e.2) (fun s s' e=>hs _ _ e.1 e.2) (fun e=>hn e.1 e.2) w).2,.bool _⟩
  ·simp at h
theorem GD{T:Tr Value}{a:Act}(ht:fy m T a.tmps){place:Nat→Option (Nat×Nat)}:∀ {l:List (Nat×Operand)} {ps:List (Nat×Nat×Value)},evParts T place l=some ps→
  ps.length=l.length∧∀ (i j:Nat) (x:Operand),l[i]? =some (j,x)→∃ o s v,ps[i]? =some (o,s,v)∧place j=some (o,s)∧VRel m v (a.eval x)
 |[],ps,h=>by simp[evParts]at h;subst h;exact⟨rfl,fun i j x h=>by simp at h⟩
 |(i₀,x₀)::l,ps,h=>by
  simp only[evParts,we,wi]at h
  obtain⟨p,h1,v,h2,r,h3,rfl⟩:=h
  obtain⟨h4,h5⟩:=GD ht h3
  refine⟨by simp[h4],fun i j x hx=>?_⟩
  cases i with
  |zero=>
   simp only[wQ,wi,wk]at hx
   obtain⟨rfl,rfl⟩:=hx
   exact⟨p.1,p.2,v,rfl,h1,cO ht h2⟩
  |succ i=>simpa using h5 i j x (by simpa using hx)
end
section
variable{B lo0:Nat}{m:Match}{w:World}{P:Program}
theorem Dr(new:List Value):∀ (o:Nat) (l:List Value),o+new.length≤l.length→over new o l=l.take o++new++l.drop (o+new.length)
 |0,l,h=>by simp[over]
 |o+1,x::l,h=>by
  simp only[wY]at h
  simp only[over,Dr new o l (by omega),wch,wat,show o+1+new.length=(o+new.length)+1 by omega,waV]
 |o+1,[],h=>by simp at h
theorem LRel.over{a a' n n':List Value}{o:Nat}(ha:LRel m a a')(hn:LRel m n n')(h:o+n.length≤a.length):LRel m (AM.over n o a) (AM.over n' o a'):=by
 rw[Dr n o a h,Dr n' o a' (by rw[←hn.1,←ha.1];exact h),←hn.1]
 exact((ha.take o).append hn).append (ha.drop _)
theorem Ni(off:Nat):∀ (new:List Value) (k:Nat) (cs:Array Value),off+k+new.length≤cs.size→
  (new.zipIdx k).foldl (fun cs (c,j)=>cs.setIfInBounds (off+j) c) cs=(over new (off+k) cs.toList).toArray
 |[],k,cs,h=>by
  have:=Dr [] (off+k) cs.toList (by simpa using h)
  simp[this]
 |v::new,k,cs,h=>by
  simp only[wY]at h
  simp only[List.zipIdx_cons,wb4]
  rw[Ni off new (k+1) _ (by simp;omega)]
  congr 1
  apply waR
  intro i
  rw[Dg _ _ (by simp;omega),Dg _ _ (by simp;omega)]
  simp only[Array.toList_setIfInBounds,wY]
  by_cases h1:off+(k+1)≤i∧i<off+(k+1)+new.length
  ·rw[wF h1,wF (by omega),show i-(off+k)=(i-(off+(k+1)))+1 by omega,wbo]
  ·rw[wI h1]
   by_cases h2:i=off+k
   ·subst h2
    rw[wF (by omega),wca,wF rfl,wF (by simp;omega)]
    simp
   ·rw[wI (by omega),wca,wI (by omega)]
theorem Ds{place:Nat→Option (Nat×Nat)}:∀ {ps:List (Nat×Nat×Value)} {parts:List (Nat×Value)} {cells:List Value} {cells':Array Value} {l:List Value},fillV cells ps=some l→LRel m cells cells'.toList→
  ps.length=parts.length→(∀(i:Nat) (j:Nat) (x:Value),parts[i]? =some (j,x)→∃ (o s:Nat) (v:Value),ps[i]? =some (o,s,v)∧place j=some (o,s)∧VRel m v x)→
  ∃l':Array Value,Instr.fill place cells' parts=some l'∧LRel m l l'.toList
 |[],[],cells,cells',l,h,hc,_,_=>by simp[fillV]at h;subst h;exact⟨cells',rfl,hc⟩
 |[],_::_,_,_,_,_,_,hl,_=>by simp at hl
 |_::_,[],_,_,_,_,_,hl,_=>by simp at hl
 |(o,s,v)::ps,(j,x)::parts,cells,cells',l,h,hc,hl,hp=>by
  obtain⟨o₁,s₁,v₁,h1,h2,h3⟩:=hp 0 j x rfl
  simp only[wQ,wi,wk]at h1
  obtain⟨rfl,rfl,rfl⟩:=h1
  simp only[fillV]at h
  obtain⟨h4,h5⟩:=cr h
  simp only[wA,wbp,wbi,jD]at h4
  rw[jD]at h5
  have hv:=xV h3
  have py:x.cells.toList=cj x:=jD x
  have bh:x.cells.size=s:=by rw[←waF,py,←hv.1];exact h4.1
  have ib:cells.length=cells'.size:=by rw[hc.1];simp
  obtain⟨l',h6,h7⟩:=Ds (place:=place) (parts:=parts) (cells':=(over (cj x) o cells'.toList).toArray) h5 (by
    simpa using hc.over hv (by rw[h4.1];exact h4.2)) (by simpa using hl)
    (fun i j x hx=>by simpa using hp (i+1) j x (by simpa using hx))
  refine⟨l',?_,h7⟩
  simp only[Instr.fill,h2]
  rw[wI (by simp only[bh,ne_eq,wcC,decide_false,wct,wT];omega)]
  have hz:x.cells.zipIdx.foldl (fun cs (c,j)=>cs.setIfInBounds (o+j) c) cells'=(over (cj x) o cells'.toList).toArray:=by
   rw[←wcA,Array.toList_zipIdx,py]
   exact Ni o (cj x) 0 cells' (by rw[←hv.1,h4.1];omega)
  rw[←h6,←hz]
end
section
variable[Maps]{m:Match}{w:World}{E:Env}
end
section
variable[Maps]{B lo0:Nat}{m:Match}{H:Heap}{w:World}{E:Env}
end
section
variable{B lo0:Nat}{m:Match}{w:World}{P:Program}
end
section
variable[Maps]{B lo0:Nat}{m:Match}{H:Heap}{w:World}{E:Env}
theorem Mc(hE:EnvOk E)(hR:Rel B lo0 m H w){t:TypeId}{x x' v:Value}(h:loadV E H t x=some v)(hx:VRel m x x'):∃ v',(Instr.loadAt t x').run E.P w= .ok v' w∧VRel m v v':=by
 unfold loadV at h
 split at h
 ·rename_i r o
  cases hx with
  |ptr hm=>
   rename_i p
   split at h
   ·rename_i cells bH dF hr
    simp only[we]at h
    obtain⟨i,h1,h2⟩:=h
    obtain⟨⟨C,e,fr,c1,_,_,c4,c5⟩,_⟩:=hR.obj r p _ hm hr
    have mN:=hE.isAgg h1
    cases ha:i.agg with
    |true=>
     rw[ha]at h2 mN
     simp only[wai,we,wi]at h2
     obtain⟨l,h3,rfl⟩:=h2
     obtain⟨h4,rfl⟩:=xG h3
     have kS:∀ (j:Nat) (v:Value),((C.toList.drop (p.base+o)).take i.size)[j]? =some v→w.cell? (Addr.add ⟨p.ax,p.base+o,none⟩ j)=some v:=fun j v hv=>by
      rw[wab]at hv
      split at hv
      ·rw[add_plain,cell?_at c1,←hv,wae];simp
      ·simp at hv
     have cg:((C.toList.drop (p.base+o)).take i.size).length=i.size:=by simp;omega
     have bE:=run_loadCells_list (P:=E.P) w ⟨p.ax,p.base+o,none⟩ _ kS
     rw[cg]at bE
     refine⟨.agg ((C.toList.drop (p.base+o)).take i.size).toArray,?_,?_⟩
     ·simp only[Instr.loadAt,Instr.sureAddr,loadVar,wB,wC,wu,mN,hE.oF h1,bE,wah]
     ·refine .zU ⟨by rw[cg];simp;omega,fun j v v' hv dv=>?_⟩
      rw[wab]at hv dv
      split at hv
      ·rename_i hj
       rw[wF hj]at dv
       rw[wae]at hv dv
       obtain⟨rz,d1,d2⟩:=c5 (o+j) v hv
       rw[show p.base+o+j=p.base+(o+j) by omega]at dv
       simp only[wao]at dv
       rw[d1]at dv;cases dv;exact d2
      ·simp at hv
    |false=>
     rw[ha]at h2 mN
     simp only[wS]at h2
     obtain⟨v',d1,d2⟩:=c5 o v h2
     exact⟨v',by simp[Instr.loadAt,Instr.sureAddr,loadVar,mN,cell?_at c1,d1],d2⟩
   ·simp at h
 ·simp at h
theorem Ul(hE:EnvOk E)(hR:Rel B lo0 m H w){t:TypeId}{x x' v v':Value}{H':Heap}(h:tH E H t x v=some H')(hx:VRel m x x')(hv:VRel m v v'):
  ∃w',(Instr.storeAt t x' v').run E.P w= .ok () w'∧Good B lo0 m H w m H' w':=by
 unfold tH at h
 split at h
 ·rename_i r o
  cases hx with
  |ptr hm=>
   rename_i p
   simp only[we]at h
   obtain⟨n,h1,h2⟩:=h
   obtain⟨h3,h4⟩:=cr h2
   have hl:=xV hv
   obtain⟨w',h5,h6⟩:=xJ (P:=E.P) hR hm h4 hl
   refine⟨w',?_,h6⟩
   have bh:v'.cells.size=n:=by rw[←waF,jD,←hl.1];simpa using h3
   simp only[Instr.storeAt,Instr.sureAddr,storeVar,wB,wC,wu,hE.size h1,bh,ne_eq,wcC,waa,jD,h5]
 ·simp at h
theorem Ur(hE:EnvOk E){s:TypeId}{x x' v:Value}{f:Nat}(h:fieldAddrV E s x f=some v)(hx:VRel m x x')(w:World):∃ v',(Instr.fieldAt s x' f).run E.P w= .ok v' w∧VRel m v v':=by
 simp only[fieldAddrV,we]at h
 obtain⟨i,h1,h2⟩:=h
 split at h2
 ·rename_i fs r o hd
  cases hx with
  |ptr hm=>
   rename_i p
   simp only[we]at h2
   obtain⟨vJ,h3,n,h4,h5⟩:=h2
   obtain⟨h6,h7⟩:=cM h5
   simp only[wi]at h7
   subst h7
   have hn:n≠0:=by intro e;subst e;simp at h6
   refine⟨_,?_,.ptr hm⟩
   have hf:fs[f]? =some vJ:=by simpa using h3
   simp only[Instr.fieldAt,wB,hE.desc h1 hd,wu,hf,Instr.sureAddr,wC,fieldPlace,hE.size h4,hn,waa,add_plain,wbH]
 ·simp at h2
theorem Ut(hE:EnvOk E){t:TypeId}{x x' ix Ap v:Value}(h:indexAddrV E t x ix=some v)(hx:VRel m x x')(hi:VRel m ix Ap)(w:World):
  ∃v',(Instr.indexAt t x' Ap).run E.P w= .ok v' w∧VRel m v v':=by
 simp only[indexAddrV,we]at h
 obtain⟨i,h1,h2⟩:=h
 split at h2
 ·rename_i e r o len cap k n hd
  cases hi
  simp only[we,wi]at h2
  obtain⟨j,h3,s,h4,rfl⟩:=h2
  obtain⟨rfl,h5⟩:=at?_eq h3
  cases hx with
  |slice hm hc he hi=>
   refine⟨_,?_,.ptr hm⟩
   have hlt:(0:Int)≤(j:Int)∧(j:Int)<(len:Int):=by omega
   simp only[Instr.indexAt,asIntOf,wB,wC,wu,hE.desc h1 hd,hlt,and_self,wah,hE.size h4,waD,add_plain,wbH]
  |empty a hm he=>omega
 ·rename_i len e r o k n hd
  cases hi
  cases hx with
  |ptr hm=>
   simp only[we,wi]at h2
   obtain⟨j,h3,s,h4,rfl⟩:=h2
   obtain⟨rfl,h5⟩:=at?_eq h3
   refine⟨_,?_,.ptr hm⟩
   have hlt:(0:Int)≤(j:Int)∧(j:Int)<(len:Int):=by omega
   simp only[Instr.indexAt,asIntOf,Instr.sureAddr,wB,wC,wu,hE.desc h1 hd,hlt,and_self,wah,hE.size h4,waD,add_plain,wbH]
 ·simp at h2
theorem Us(hE:EnvOk E){t:TypeId}{x x' v:Value}{f:Nat}(h:fieldV E t x f=some v)(hx:VRel m x x')(w:World):∃ v',(Instr.field t x' f).run E.P w= .ok v' w∧VRel m v v':=by
 simp only[fieldV,we]at h
 obtain⟨i,h1,h2⟩:=h
 split at h2
 ·rename_i fs cs hd
  obtain⟨iI,rfl,hc⟩:=hx.Dq
  simp only[we]at h2
  obtain⟨vJ,h3,h4⟩:=h2
  obtain⟨v',h5,h6⟩:=Dp hE h4 hc
  have hf:fs[f]? =some vJ:=by simpa using h3
  exact⟨v',by simp only[Instr.field,wB,hE.desc h1 hd,wu,hf,asAgg,wC,h5],h6⟩
 ·simp at h2
theorem Uu(hE:EnvOk E){t:TypeId}{x x' ix Ap v:Value}(h:indexV E t x ix=some v)(hx:VRel m x x')(hi:VRel m ix Ap)(w:World):
  ∃v',(Instr.index t x' Ap).run E.P w= .ok v' w∧VRel m v v':=by
 simp only[indexV,we]at h
 obtain⟨i,h1,h2⟩:=h
 split at h2
 ·rename_i len e cs k n hd
  cases hi
  obtain⟨iI,rfl,hc⟩:=hx.Dq
  simp only[we]at h2
  obtain⟨j,h3,s,h4,h5⟩:=h2
  obtain⟨rfl,h6⟩:=at?_eq h3
  obtain⟨v',h7,h8⟩:=Dp hE h5 hc
  have hlt:(0:Int)≤(j:Int)∧(j:Int)<(len:Int):=by omega
  exact⟨v',by simp only[Instr.index,asIntOf,wB,wC,wu,hE.desc h1 hd,hlt,and_self,wah,hE.size h4,waD,h7],h8⟩
 ·rename_i s k n hd
  cases hi;cases hx
  simp only[we,wi]at h2
  obtain⟨j,h3,b,h4,rfl⟩:=h2
  obtain⟨rfl,h6⟩:=at?_eq h3
  refine⟨_,?_,.int _ _⟩
  have hb:s[j]? =some b:=by
   have h7:s.data[j]? =some b:=by simpa using h4
   rw[getElem?_pos s j h6]
   have h8:=(w0.1 h7).2
   rw[←h8]
   rfl
  simp only[Instr.index,asIntOf,wB,wC,wu,hE.desc h1 hd,wco,wah,waD,hb]
 ·simp at h2
end
section
variable[Maps]{B lo0:Nat}{m:Match}{H:Heap}{w:World}{E:Env}
theorem Nj(hE:EnvOk E):∀ {fs:List Field} {pl:List (Nat×Nat)},placesV E fs=some pl→fs.mapM (fun f=>(E.P.info? f.type).map fun i=>(f.offset,i.size))=some pl
 |[],pl,h=>by simp[placesV]at h;subst h;simp
 |f::fs,pl,h=>by
  simp only[placesV,Env.size,we,wi]at h
  obtain⟨s,⟨i,h1,rfl⟩,l,h2,rfl⟩:=h
  obtain⟨info,h3,_,h4,_⟩:=hE.inv h1
  simp[List.mapM_cons,h3,h4,Nj hE h2]
theorem Uj(hE:EnvOk E){T:Tr Value}{a:Act}(ht:fy m T a.tmps){t:TypeId}{parts:Array (Nat×Operand)}{v:Value}(h:gm E T t parts.toList=some v)(w:World):
  ∃v',(Instr.build t (parts.map fun(i,x)=>(i,a.eval x))).run E.P w= .ok v' w∧VRel m v v':=by
 simp only[gm,we]at h
 obtain⟨i,h1,z,hz,h2⟩:=h
 obtain⟨info,h3,hu,_,_,_,Vz,_⟩:=hE.inv h1
 obtain⟨Dt,uj⟩:=Vz z hz
 have kQ:LRel m (cj z) z.cells.toList:=by rw[jD];exact xV (plainV_rel uj)
 have Nk:∀ {ps:List (Nat×Nat×Value)} {place:Nat→Option (Nat×Nat)},evParts T place parts.toList=some ps→ps.length=(parts.map fun(i,x)=>(i,a.eval x)).toList.length∧
   ∀(i:Nat) (j:Nat) (x:Value),(parts.map fun(i,x)=>(i,a.eval x)).toList[i]? =some (j,x)→∃ (o s:Nat) (v:Value),ps[i]? =some (o,s,v)∧place j=some (o,s)∧VRel m v x:=by
  intro ps place hp
  obtain⟨h4,h5⟩:=GD ht hp
  refine⟨by simp[h4],fun i j x hx=>?_⟩
  simp only[Array.toList_map,war,wa6,wk]at hx
  obtain⟨⟨j',x'⟩,h6,h7,h8⟩:=hx
  simp only at h7 h8
  subst h7;subst h8
  exact h5 i j' x' h6
 split at h2
 ·rename_i fs hd
  rw[hd]at hu
  simp only[we,wi]at h2
  obtain⟨pl,h4,ps,h5,l,h6,rfl⟩:=h2
  obtain⟨h7,h8⟩:=Nk h5
  obtain⟨l',h9,aY⟩:=Ds (place:=fun k=>pl[k]?) h6 kQ h7 h8
  refine⟨.agg l',run_build w t _ l' ?_,by simpa using VRel.zU aY⟩
  simp only[Program.built,h3,hu,Dt,Nj hE h4]
  simpa using h9
 ·rename_i n e hd
  rw[hd]at hu
  simp only[Env.size,we,wi]at h2
  obtain⟨s,⟨j,hj,rfl⟩,ps,h5,l,h6,rfl⟩:=h2
  obtain⟨zh6,aV,_,bB,_⟩:=hE.inv hj
  obtain⟨h7,h8⟩:=Nk h5
  obtain⟨l',h9,aY⟩:=Ds h6 kQ h7 h8
  refine⟨.agg l',run_build w t _ l' ?_,by simpa using VRel.zU aY⟩
  simp only[Program.built,h3,hu,Dt,aV,←bB]
  exact h9
 ·simp at h2
end
section
variable{B lo0:Nat}{m:Match}{w:World}{P:Program}
theorem EZ(z:List Value):∀ n,(dr z n).length=n*z.length
 |0=>by simp[dr]
 |n+1=>by rw[dr,wN,EZ z n,Nat.succ_mul];omega
theorem Nl(z:List Value):∀ (n i:Nat),i<n*z.length→(dr z n)[i]? =z[i%z.length]?
 |0,i,h=>by simp at h
 |n+1,i,h=>by
  rw[Nat.succ_mul]at h
  by_cases hi:i<z.length
  ·rw[dr,waf hi,Nat.mod_eq_of_lt hi]
  ·rw[dr,waB (by omega),Nl z n _ (by omega)]
   congr 1
   rw[←Nat.mod_eq_sub_mod (by omega)]
theorem zo(z:Array Value)(n:Nat):((Array.range (n*z.size)).map (z[· %z.size]!)).toList=dr z.toList n:=by
 apply waR
 intro i
 by_cases hi:i<n*z.size
 ·have hz:0<z.size:=Nat.pos_of_ne_zero fun e=>by rw[e]at hi;simp at hi
  have hm:i%z.size<z.size:=Nat.mod_lt _ hz
  rw[Nl z.toList n i (by simpa using hi)]
  simp[hi,hm,getElem!_pos]
 ·rw[wak (by simp;omega),wak (by rw[EZ];simp;omega)]
theorem yh{z:Value}(h:plainV z=true):LRel m (cj z) (cj z):=xV (plainV_rel h)
theorem LRel.repeat{z z':List Value}(h:LRel m z z'):∀ n,LRel m (dr z n) (dr z' n)
 |0=> .nil m
 |n+1=>h.append (LRel.repeat h n)
end
section
variable[Maps]{B lo0:Nat}{m:Match}{H:Heap}{w:World}{E:Env}
theorem Uh(hE:EnvOk E)(hR:Rel B lo0 m H w){t:TypeId}{i:TI}{z:Value}(h1:E.ty.get t=some i)(hz:i.zero=some z):
  ∃v' w' m',(Instr.alloc t true (.tuple #[])).run E.P w= .ok v' w'∧Good B lo0 m H w m' (H.newRow (cj z)) w'∧VRel m' (ptr H.next 0) v':=by
 obtain⟨h2,h3⟩:=hE.zero h1 hz
 have hl:LRel m (cj z) z.cells.toList:=by rw[jD];exact yh h2
 refine⟨.pointer (some ⟨w.heap.size,0,none⟩),_,_,?_,Good.newRow hR (w':=w.alloc (.cells z.cells t)) t rfl ⟨rfl,rfl⟩ hl,?_⟩
 ·simp only[Instr.alloc,wB,h3,wu,newVar,newRow,wbN,wC]
  rfl
 ·exact VRel.ptr (o:=0) (jE _ _ _)
theorem Ui(hR:Rel B lo0 m H w){t:TypeId}{v v':Value}(hv:VRel m v v')(P:Program):
  ∃p' w' m',(Instr.box t v').run P w= .ok p' w'∧Good B lo0 m H w m' (H.newRow (cj v)) w'∧VRel m' (ptr H.next 0) p':=by
 have hl:LRel m (cj v) v'.cells.toList:=by rw[jD];exact xV hv
 refine⟨.pointer (some ⟨w.heap.size,0,none⟩),_,_,?_,Good.newRow hR (w':=w.alloc (.cells v'.cells t)) t rfl ⟨rfl,rfl⟩ hl,?_⟩
 ·simp only[Instr.box,wB,newVar,newRow,wbN,wu,wC]
  rfl
 ·exact VRel.ptr (o:=0) (jE _ _ _)
theorem Uk(hE:EnvOk E)(hR:Rel B lo0 m H w){T:Tr Value}{a:Act}(ht:fy m T a.tmps){t e:TypeId}{i j:TI}{len:Nat}{parts:Array (Nat×Operand)}{z:Value}{ps:List (Nat×Nat×Value)}{l:List Value}
  (h1:E.ty.get t=some i) (hd:i.desc= .slice e) (h2:E.ty.get e=some j) (hz:j.zero=some z) (h3:(cj z).length=j.size) (h4:len*j.size≤10000000) (h5:j.size≠0)
  (h6:evParts T (fun k=>some (k*j.size,j.size)) parts.toList=some ps) (h7:fillV (dr (cj z) len) ps=some l):
  ∃v' w' m',(Instr.buildSlice t len (parts.map fun(i,x)=>(i,a.eval x))).run E.P w= .ok v' w'∧Good B lo0 m H w m' (H.newRow l) w'∧VRel m' (.slice (some ⟨H.next,0,none⟩) len len) v':=by
 obtain⟨hp,kQ⟩:=hE.zero h2 hz
 have rZ:z.cells.size=j.size:=by rw[←waF,jD,h3]
 have uQ:LRel m (dr (cj z) len) (((Array.range (len*j.size)).map (z.cells[· %z.cells.size]!))).toList:=by
  rw[←rZ,zo,jD]
  exact(yh hp).repeat len
 obtain⟨h8,h9⟩:=GD ht h6
 obtain⟨l',aY,aV⟩:=Ds (place:=fun k=>some (k*j.size,j.size)) (parts:=(parts.map fun(i,x)=>(i,a.eval x)).toList) h7 uQ (by simp[h8]) (fun i k x hx=>by
  simp only[Array.toList_map,war,wa6,wk]at hx
  obtain⟨⟨j',x'⟩,e1,e2,e3⟩:=hx
  simp only at e2 e3
  subst e2;subst e3
  exact h9 i j' x' e1)
 refine⟨.slice (some ⟨w.heap.size,0,none⟩) len len,_,_,?_,Good.newRow hR (w':=w.alloc (.cells l' e)) e rfl ⟨rfl,rfl⟩ aV,?_⟩
 ·have gx:¬ len*j.size>2^24:=by omega
  by_cases h0:len*j.size=0
  ·have:len=0:=by rcases Nat.mul_eq_zero.1 h0 with h|h;exact h;exact absurd h h5
   subst this
   have Du:∀ f:Nat→Value,(Array.range 0).map f= #[]:=fun f=>by simp
   rw[wb2,Du]at aY
   have fK:¬ (0>2^24):=by omega
   simp only[Instr.buildSlice,wB,hE.desc h1 hd,wu,hE.oF h2,wb2,wah,Du]
   rw[wI fK]
   simp only[wB,wC,wu,aY,newRow,wbN]
   rfl
  ·simp only[Instr.buildSlice,wB,hE.desc h1 hd,wu,hE.oF h2,gx,waa,h0,kQ,wC,aY,newRow,wbN]
   rfl
 ·have:=VRel.slice (m:=eD m H.next ⟨w.heap.size,0,l'.size,true,0⟩) (r:=H.next) (o:=0) (l:=len) (c:=len) (c':=len) (jE _ _ _) (wy _) (fun _=>rfl) (fun h=>by cases h)
  exact this
end
section
variable[Maps]{B lo0:Nat}{m:Match}{H:Heap}{w:World}{E:Env}
end
section
variable{B lo0:Nat}{m:Match}{w:World}{P:Program}
theorem Kl(dJ:Nat):∀ (n c:Nat),c<dJ→Builtin.growBy dJ n c≤2*dJ+512
 |0,c,h=>by simp only[Builtin.growBy];omega
 |n+1,c,h=>by
  simp only[Builtin.growBy]
  split
  ·omega
  ·by_cases h2:c+(c+768)/4<dJ
   ·exact Kl dJ n _ h2
   ·have:Builtin.growBy dJ n (c+(c+768)/4)=c+(c+768)/4:=by
     cases n with
     |zero=>rfl
     |succ n=>simp only[Builtin.growBy];rw[wF (by omega)]
    rw[this];omega
theorem nextslicecap_le{dJ cap:Nat}(h:cap<dJ):Builtin.nextslicecap dJ cap≤2*dJ+512:=by
 unfold Builtin.nextslicecap
 split
 ·omega
 ·split
  ·omega
  ·exact Kl dJ 4 cap h
theorem RM{dJ cap bytes:Nat}(h:cap<dJ)(hb:dJ*bytes≤10000000000):¬ Builtin.nextslicecap dJ cap*bytes>2^48:=by
 have h1:=nextslicecap_le h
 have h2:bytes≤dJ*bytes:=Nat.le_mul_of_pos_left _ (by omega)
 have h3:Builtin.nextslicecap dJ cap*bytes≤(2*dJ+512)*bytes:=waQ _ h1
 have h4:(2*dJ+512)*bytes=2*(dJ*bytes)+512*bytes:=by rw[waW,Nat.mul_assoc]
 omega
end
section
variable[Maps]{B lo0:Nat}{m:Match}{H:Heap}{w:World}{E:Env}
theorem Km{n:Nat}{x:Value}{l:List Value}(h:cellsOf H n x=some l):l.length=n:=by
 unfold cellsOf at h
 split at h
 ·obtain⟨h1,h2⟩:=cr h
  simp only[wi]at h2
  subst h2
  have:n=0:=by simpa using h1
  simp[this]
 ·split at h
  ·exact Cd h
  ·simp at h
 ·simp at h
theorem zm(hR:Rel B lo0 m H w){n size k:Nat}{x x':Value}{l:List Value}(h:cellsOf H n x=some l)(hx:VRel m x x')(hn:k*size=n)(he:∀ a,x= .slice a 0 0→n=0):
  ∃l',LRel m l l'∧∀ w':World,w'.heap=w.heap→∀ P,(Builtin.firstCells size k x').run P w'= .ok l'.toArray w':=by
 unfold cellsOf at h
 split at h
 ·cases hx
  obtain⟨_,h⟩:=cr h
  simp only[wi]at h;subst h
  exact⟨[],.nil m,fun w' _ P=>by simp[Builtin.firstCells]⟩
 ·rename_i r o len cap
  split at h
  ·rename_i cells bH dF hr
   obtain⟨h4,h5⟩:=xG h
   cases hx with
   |slice hm hc hex hi=>
    rename_i c' p
    obtain⟨⟨C,e,fr,c1,_,_,c4,c5⟩,_⟩:=hR.obj r p _ hm hr
    refine⟨(C.toList.drop (p.base+o)).take n,⟨by rw[h5];simp;omega,fun j v v' hv dv=>?_⟩,fun w' hw P=>?_⟩
    ·rw[h5,wab]at hv
     rw[wab]at dv
     split at hv
     ·rename_i hj
      rw[wF hj]at dv
      rw[wae]at hv dv
      obtain⟨rz,d1,d2⟩:=c5 (o+j) v hv
      rw[show p.base+o+j=p.base+(o+j) by omega]at dv
      simp only[wao]at dv
      rw[d1]at dv;cases dv;exact d2
     ·simp at hv
    ·have RN:w'.heap[p.ax]? =some (.cells C e fr):=by rw[hw];exact c1
     have cg:((C.toList.drop (p.base+o)).take n).length=n:=by simp;omega
     have bE:=run_loadCells_list (P:=P) w' ⟨p.ax,p.base+o,none⟩ ((C.toList.drop (p.base+o)).take n) (fun j v hv=>by
      rw[wab]at hv
      split at hv
      ·rw[add_plain,cell?_at RN,←hv,wae];simp
      ·simp at hv)
     rw[cg]at bE
     simp only[Builtin.firstCells,hn,bE]
   |empty a hm mH=>
    have oU:=he _ rfl
    subst oU
    have:l=[]:=by rw[h5];simp
    subst this
    exact⟨[],.nil m,fun w' _ P=>by simp[Builtin.firstCells,hn,loadCells,loadCellsFrom]⟩
  ·simp at h
 ·simp at h
theorem Kn(hR:Rel B lo0 m H w){w':World}{z:Nat}{cells:List Value}{C:Array Value}(e:TypeId)(hw:w'.heap=w.heap.push (.cells C e))(fu:w'.os=w.os∧w'.output=w.output)
  (hc:th m cells C 0) (hl:cells.length≤C.size):Good B lo0 m H w (eD m H.next ⟨w.heap.size,0,C.size,false,z⟩) (H.dx z cells) w':=by
 refine Good.add hR (.cells C e) (.row cells (some (H.next,z)) true) _ rfl hw fu ⟨⟨C,e,(0,0),by rw[hw];simp,rfl,fun _ i _ h=>by simp at h,by simpa using hl,fun i v hv=>?_⟩,rfl,fun g z' h=>by
   simp only[wi,wk]at h;exact h.2⟩
  (by simp[Heap.dx,fb,Tr.force_eq]) (by simp[Heap.dx,fb,Tr.force_eq]) (fun j x hx=>?_) (fun g l hl=>?_) (fun c g z' t h=>by
   simp only[AObj.row.injEq,wi,wk]at h;exact⟨h.2.1.1.symm,h.2.2.symm⟩)
 ·obtain⟨v',h1,h2⟩:=hc i v hv
  exact⟨v',h1,h2.mono (oV _ hR.oW)⟩
 ·simp only[Heap.dx,fb,Tr.force_eq]at hx
  exact Tr.dq hx
 ·simp only[Heap.dx,fb,Tr.force_eq]at hl
  rcases Tr.dq hl with⟨h,_⟩|⟨_,h⟩
  ·exact .inl h
  ·exact .inr h
def appendTail(size:Nat)(e:TypeId)(s:Value)(base:Option Addr)(dA gd n:Nat)(zeros:Bool)(mayShare:Sem Bool)(Kp:Sem (Array Value)):Sem Value:=do
 let dJ:=dA+n
 if dJ≤gd then
  let new ←Kp
  if let some a:=base then storeCells (a.add (dA*size)) new.toList
  pure (.slice base dJ gd)
 else
  if(dJ:Int)>IntKind.i64.max∧(zeros∨(←typeInfo e).bytes=0)then runtimePanic (.error "growslice: len out of range")
  if Builtin.nextslicecap dJ gd*(←typeInfo e).bytes>2^48 then(if zeros then runtimePanic (.error "growslice: len out of range")else do
   if !(←mayShare)then mark .noRoom
   unsupported (.resourceLimit "append: a slice or a string whose bytes no memory bears"))
  let kh ←choose (.appendCap dJ gd e)
  askRoom (kh*(←typeInfo e).bytes)
  let aS ←Builtin.firstCells size dA s
  let new ←Kp
  let rest:=Builtin.zeroCells (←zeroValue e).cells (kh-dJ)
  pure (.slice (some (←newRow e (aS++new++rest))) dJ kh)
end
section
variable[Maps]{B lo0:Nat}{m:Match}{H:Heap}{w:World}{E:Env}
end
section
variable{B lo0:Nat}{m:Match}{w:World}{P:Program}
theorem EY{a b:Nat}(h:Nat.ble a b=false):¬ a≤b:=fun cp=>by rw[wP cp]at h;cases h
theorem RO{i:TI}{dJ:Nat}(h:ti i dJ=true):∃ z,i.zero=some z∧i.size≠0∧dJ*i.bytes≤10000000000∧dJ≤1000000000∧(cj z).length=i.size:=by
 unfold ti at h
 split at h
 ·rename_i z hz
  simp only[wA,wbt,wbi,wbp]at h
  obtain⟨⟨⟨h1,h2⟩,h3⟩,h4⟩:=h
  refine⟨z,hz,?_,h2,h3,h4⟩
  intro e
  rw[e]at h1
  simp at h1
 ·simp at h
end
section
variable[Maps]{B lo0:Nat}{m:Match}{H:Heap}{w:World}{E:Env}
theorem RP(hE:EnvOk E){e:TypeId}{i:TI}(h1:E.ty.get e=some i){dA gd k:Nat}(hg:ti i (dA+k)=true)(hc:¬ dA+k≤gd)
  {s:Value} {base:Option Addr} {zeros:Bool} {sh:Sem Bool} {app:Sem (Array Value)} {aS new:List Value}
  (hold:(Builtin.firstCells i.size dA s).run E.P w.drew= .ok aS.toArray w.drew) (xH:app.run E.P w.drew= .ok new.toArray w.drew):
  ∃kh rest,dA+k≤kh∧rest.length=(kh-(dA+k))*i.size∧
   (appendTail i.size e s base dA gd k zeros sh app).run E.P w= .ok (.slice (some ⟨w.heap.size,0,none⟩) (dA+k) kh) (w.drew.alloc (.cells (aS++new++rest).toArray e)):=by
 obtain⟨z,hz,h2,h3,h4,h5⟩:=RO hg
 obtain⟨hp,kQ⟩:=hE.zero h1 hz
 obtain⟨info,hi,hb⟩:=hE.bytes h1
 have RQ:¬ (((dA+k:Nat):Int)>IntKind.i64.max∧(zeros=true∨info.bytes=0)):=fun h=>by
  have:=h.1;simp[IntKind.max,IntKind.signed,IntKind.bits]at this;omega
 have lK:¬ Builtin.nextslicecap (dA+k) gd*info.bytes>2^48:=by rw[hb];exact RM (by omega) h3
 let q:=Question.appendCap (dA+k) gd e
 let nc:=q.cut (w.tape w.drawn q)
 have Ce:dA+k≤nc:=by show dA+k≤dA+k+_;omega
 have RR:q.forced=false:=rfl
 refine⟨nc,dr (cj z) (nc-(dA+k)),Ce,by rw[EZ,h5],?_⟩
 have a8:(choose (.appendCap (dA+k) gd e)).run E.P w= .ok nc w.drew:=by rw[run_choose];exact wI (by rw[RR];simp)
 have Cf:Builtin.zeroCells z.cells (nc-(dA+k))=(dr (cj z) (nc-(dA+k))).toArray:=by
  apply wcJ
  unfold Builtin.zeroCells
  rw[zo,jD]
 have tj:(aS.toArray++new.toArray++(dr (cj z) (nc-(dA+k))).toArray)=(aS++new++dr (cj z) (nc-(dA+k))).toArray:=by simp
 unfold appendTail
 simp only[hc,waa,wB,hi,wu]
 rw[wI RQ]
 simp only[wB,hi,wu]
 rw[wI lK]
 simp only[wB,a8,hi,run_askRoom,hold,xH,kQ,Cf,tj,newRow,wbN,wC,wu]
 rfl
end
section
variable{B lo0:Nat}{m:Match}{w:World}{P:Program}
theorem zp{e:TypeId}{size dA gd k:Nat}(hc:dA+k≤gd){s:Value}{base:Option Addr}{zeros:Bool}{sh:Sem Bool}{app:Sem (Array Value)}{new:List Value}{P:Program}
  (xH:app.run P w= .ok new.toArray w) {w':World} (cK:(match base with
   |some a=>(storeCells (a.add (dA*size)) new).run P w
   |none=> .ok () w)= .ok () w'):
  (appendTail size e s base dA gd k zeros sh app).run P w= .ok (.slice base (dA+k) gd) w':=by
 unfold appendTail
 simp only[hc,wah,wB,xH,wu]
 cases base with
 |none=>simp only at cK;cases cK;simp
 |some a=>simp only at cK;simp[cK]
theorem RS{new cG:List Value}(hn:LRel m new cG)(h:new.all isCell=true):cG.all isCell=true:=by
 rw[waC]at h⊢
 intro v' dv
 obtain⟨i,hi⟩:=wbx.1 dv
 have hlt:i<new.length:=by rw[hn.1];exact(wD.1 hi).1
 rw[E0 (hn.2 i _ v' (wj hlt) hi)]
 exact h _ (wam hlt)
end
section
variable[Maps]{B lo0:Nat}{m:Match}{H:Heap}{w:World}{E:Env}
theorem Kq(hE:EnvOk E)(hR:Rel B lo0 m H w){e:TypeId}{s s' v:Value}{k:Nat}{new cG:List Value}{H':Heap}(h:appendV E H e s k new=some (v,H'))(hs:VRel m s s')(hn:LRel m new cG)
  {i:TI} (h1:E.ty.get e=some i) (hk:new.length=k*i.size) {zeros:Bool} {sh:Sem Bool} {app:Sem (Array Value)} (xH:∀ w':World,w'.heap=w.heap→app.run E.P w'= .ok cG.toArray w'):
  ∃base dA gd,s'= .slice base dA gd∧∃ v' w' m',(appendTail i.size e s' base dA gd k zeros sh app).run E.P w= .ok v' w'∧Good B lo0 m H w m' H' w'∧VRel m' v v':=by
 simp only[appendV,we]at h
 obtain⟨i',eg,h⟩:=h
 rw[h1]at eg
 cases eg
 have zq:=xH w rfl
 have RU:=xH w.drew rfl
 have xI:∀ {s':Value} {base:Option Addr} {len cap:Nat} {aS old':List Value},ti i (len+k)=true→¬ len+k≤cap→LRel m aS old'→aS.length=len*i.size→
   (Builtin.firstCells i.size len s').run E.P w.drew= .ok old'.toArray w.drew→
   ∃kh rest,len+k≤kh∧(appendTail i.size e s' base len cap k zeros sh app).run E.P w= .ok (.slice (some ⟨w.heap.size,0,none⟩) (len+k) kh) (w.drew.alloc (.cells (old'++cG++rest).toArray e))∧
    th m (aS++new) (old'++cG++rest).toArray 0∧(aS++new).length≤(old'++cG++rest).toArray.size∧kh*i.size≤(old'++cG++rest).toArray.size:=by
  intro s' base len cap aS old' hg hc ho gh RV
  obtain⟨kh,rest,h2,h3,h4⟩:=RP (base:=base) (zeros:=zeros) (sh:=sh) hE h1 hg hc RV RU
  have Cg:=ho.append hn
  refine⟨kh,rest,h2,h4,fun j x hx=>?_,by simp[←ho.1,←hn.1],?_⟩
  ·obtain⟨x',h5,h6⟩:=Cg.get hx
   refine⟨x',?_,h6⟩
   simp only[wau,List.getElem?_toArray]
   rw[waf (wD.1 h5).1]
   exact h5
  ·simp only[List.size_toArray,wN,←ho.1,←hn.1,gh,hk,h3]
   have:kh=(len+k)+(kh-(len+k)):=by omega
   have e2:kh*i.size=(len+k)*i.size+(kh-(len+k))*i.size:=by rw[←waW,←this]
   rw[e2,waW]
   exact wy _
 split at h
 ·rename_i len cap
  cases hs
  refine⟨none,len,cap,rfl,?_⟩
  cases hb:Nat.ble (len+k) cap with
  |true=>
   rw[hb]at h
   simp only[wai,wi,wk]at h
   obtain⟨rfl,rfl⟩:=h
   exact⟨_,w,m,zp (by simpa using hb) zq rfl,.refl hR,.qk _ _⟩
  |false=>
   rw[hb]at h
   obtain⟨h2,h3⟩:=cM h
   simp only[wbM,waM,wbp]at h2
   obtain⟨h2,rfl⟩:=h2
   simp only[wi,wk]at h3
   obtain⟨rfl,rfl⟩:=h3
   obtain⟨nc,rest,h4,h5,h6,h7,h8⟩:=xI (s':= .slice none 0 cap) (base:=none) (aS:=[]) (old':=[]) h2 (EY hb) (.nil m) (by simp) (by simp[Builtin.firstCells])
   refine⟨_,_,_,h5,Kn (z:=i.size) (C:=(([]:List Value)++cG++rest).toArray) (w':=w.drew.alloc (.cells (([]:List Value)++cG++rest).toArray e)) hR e rfl ⟨rfl,rfl⟩ h6 h7,?_⟩
   exact VRel.slice (o:=0) (jE _ _ _) h4 (fun h=>by cases h) (fun _=>by simpa using h8)
 ·rename_i r o len cap
  cases hs with
  |slice hm hc hex hi=>
   rename_i c' p
   refine⟨some ⟨p.ax,p.base+o,none⟩,len,c',rfl,?_⟩
   cases hb:Nat.ble (len+k) cap with
   |true=>
    have cp:len+k≤cap:=by simpa using hb
    rw[hb]at h
    simp only[wai]at h
    cases lL:Nat.beq k 0 with
    |true=>
     rw[lL]at h
     have:k=0:=by simpa using lL
     subst this
     simp only[wai,wi,wk]at h
     obtain⟨rfl,rfl⟩:=h
     have oU:cG=[]:=by
      have:new=[]:=wby.1 (by rw[hk];simp)
      subst this
      exact hn.mI
     subst oU
     exact⟨_,w,m,zp (wK cp hc) zq (by simp[storeCells]),.refl hR,.slice hm hc hex hi⟩
    |false=>
     rw[lL]at h
     simp only[wS,we,wi,wk]at h
     obtain⟨H₁,h2,rfl,rfl⟩:=h
     obtain⟨w',h3,h4⟩:=xJ (P:=E.P) hR hm h2 hn
     refine⟨_,w',m,zp (wK cp hc) zq ?_,h4,.slice hm hc hex hi⟩
     simp only[add_plain,wbH]
     exact h3
   |false=>
    have rA:¬ len+k≤cap:=EY hb
    rw[hb]at h
    obtain⟨h2,h3⟩:=cM h
    simp only[waM]at h2
    split at h3
    ·rename_i cells dF hr
     simp only[we,wi,wk]at h3
     obtain⟨l,h4,rfl,rfl⟩:=h3
     have tn:=(hR.obj r p _ hm hr).2.1
     have xK:c'=cap:=hex (by rw[tn];rfl)
     subst xK
     have uQ:cellsOf H (len*i.size) (.slice (some ⟨r,o,none⟩) len c')=some l:=by simp only[cellsOf,hr];exact h4
     obtain⟨l',h5,h6⟩:=zm (size:=i.size) (k:=len) hR uQ (.slice hm hc hex hi) rfl (fun a e=>by cases e;simp)
     obtain⟨nc,rest,h7,h8,h9,aY,aV⟩:=xI (base:=some ⟨p.ax,p.base+o,none⟩) h2 rA h5 (Cd h4) (h6 w.drew rfl E.P)
     exact⟨_,_,_,h8,Kn (z:=i.size) (C:=(l'++cG++rest).toArray) (w':=w.drew.alloc (.cells (l'++cG++rest).toArray e)) hR e rfl ⟨rfl,rfl⟩ h9 aY,VRel.slice (o:=0) (jE _ _ _) h7 (fun h=>by cases h) (fun _=>by simpa using aV)⟩
    ·rename_i cells g z hr
     obtain⟨h4,h5⟩:=cr h3
     simp only[wA,wbp,wbi]at h4
     obtain⟨⟨⟨h4,aj⟩,rfl⟩,kS⟩:=h4
     simp only[we,wi,wk]at h5
     obtain⟨l,h6,H₁,h7,rfl,rfl⟩:=h5
     obtain⟨⟨C,e₀,fr,c1,c2,c3,c4,c5⟩,tn,hz⟩:=hR.obj r p _ hm hr
     have oy:p.exact=false:=by rw[tn];rfl
     have zr:p.z=i.size:=hz g i.size rfl
     have lK:=hi oy
     rw[zr,←c2]at lK
     have kU:=Cd h6
     have uQ:cellsOf H (len*i.size) (.slice (some ⟨r,o,none⟩) len cap)=some l:=by simp only[cellsOf,hr];exact h6
     obtain⟨l',h8,h9⟩:=zm (size:=i.size) (k:=len) hR uQ (.slice hm hc hex hi) rfl (fun a e=>by cases e;simp)
     have Kr:lo0≤r:=wK hR.lo aj
     by_cases Ch:len+k≤c'
     ·
      have bh:(len+k)*i.size≤c'*i.size:=waQ _ Ch
      rw[waW]at bh
      have fP:cG.length=k*i.size:=by rw[←hn.1,hk]
      have jF:p.base+o+len*i.size+cG.length≤C.size:=by rw[fP];omega
      have cP:cG.all isCell=true:=RS hn kS
      have bE:=Ci (P:=E.P) (o:=p.base+o+len*i.size) cG 0 w C c1 (by omega) (fun j _ h=>c3 (wz Kr) j (by omega)) cP
      simp only[waX]at bE
      refine⟨_,_,_,zp Ch zq ?_,E1 (q:=⟨p.ax,p.base+o,C.size,false,i.size⟩) hR hm aj hr h7 (fun b _ a9=>uR _ a9) (by rw[xL];exact wy _)
       (by rw[xL];exact(hR.dom r p hm).2.1) ⟨C,_,e₀,fr,c1,nK _ (w0.1 c1).1,xM jF,fun j hj=>?_⟩ (.inl ⟨rfl,?_⟩) ⟨⟨_,e₀,fr,nK _ (w0.1 c1).1,xM jF,?_,?_,?_⟩,rfl,?_⟩ ⟨rfl,rfl⟩,?_⟩
      ·simp only[add_plain]
       exact bE
      ·rw[uS jF,wI (by omega)]
      ·simp only[wN,kU,hk];omega
      ·intro _ j hj
       rw[xM jF]at hj
       exact c3 (wz Kr) j hj
      ·rw[xM jF];simp only[wN,kU,hk];omega
      ·intro j x hx
       rw[uS jF]
       simp only
       by_cases hj:j<l.length
       ·rw[waf hj]at hx
        rw[wI (by omega)]
        obtain⟨_,RX⟩:=xG h6
        rw[RX,wab,wF (by omega),wae]at hx
        obtain⟨x',e1,e2⟩:=c5 _ _ hx
        exact⟨x',by rw[←e1];congr 1;omega,e2.mono (oV _ hR.oW)⟩
       ·have tq:=(wD.1 hx).1
        rw[waB (by omega)]at hx
        simp only[wN]at tq
        rw[wF (by rw[←hn.1];omega)]
        obtain⟨x',e1,e2⟩:=hn.get hx
        exact⟨x',by rw[←e1];congr 1;omega,e2.mono (oV _ hR.oW)⟩
      ·intro g' z' he
       simp only[wi,wk]at he
       exact he.2
      ·exact VRel.slice (o:=0) (jE _ _ _) Ch (fun h=>by cases h) (fun _=>by simpa using lK)
     ·obtain⟨nc,rest,aY,aV,bB,bP,ki⟩:=xI (base:=some ⟨p.ax,p.base+o,none⟩) h2 Ch h8 kU (h9 w.drew rfl E.P)
      have gU:∀ b,b<w.heap.size→(w.drew.alloc (.cells (l'++cG++rest).toArray e)).heap[b]? =w.heap[b]? :=fun b hb=>by
       show(w.heap.push _)[b]? =_
       rw[wbD,wI (by omega)]
      have jG:(w.drew.alloc (.cells (l'++cG++rest).toArray e)).heap[w.heap.size]? =some (.cells (l'++cG++rest).toArray e):=by
       show(w.heap.push _)[w.heap.size]? =_
       simp
      refine⟨_,_,_,aV,E1 (q:=⟨w.heap.size,0,(l'++cG++rest).toArray.size,false,i.size⟩) hR hm aj hr h7 (fun b hb _=>gU b hb) (by show w.heap.size≤(w.heap.push _).size;simp)
       (by show w.heap.size<(w.heap.push _).size;simp) ⟨C,C,e₀,fr,c1,by rw[gU _ (hR.dom r p hm).2.1];exact c1,rfl,fun _ _=>rfl⟩ (.inr (wy _))
       ⟨⟨_,e,(0,0),jG,rfl,fun _ j _ h=>by simp at h,by simpa using bP,fun j x hx=>?_⟩,rfl,fun g' z' he=>?_⟩ ⟨rfl,rfl⟩,VRel.slice (o:=0) (jE _ _ _) aY (fun h=>by cases h) (fun _=>by simpa using ki)⟩
      ·obtain⟨x',e1,e2⟩:=bB j x hx
       exact⟨x',e1,e2.mono (oV _ hR.oW)⟩
      ·simp only[wi,wk]at he
       exact he.2
    ·simp at h3
  |empty a hm oy=>
   rename_i p
   refine⟨some a,0,0,rfl,?_⟩
   cases hb:Nat.ble (0+k) 0 with
   |true=>
    have:k=0:=by simpa using hb
    subst this
    rw[hb]at h
    simp only[wai,show Nat.beq 0 0=true from rfl,wi,wk]at h
    obtain⟨rfl,rfl⟩:=h
    have oU:cG=[]:=by
     have:new=[]:=wby.1 (by rw[hk];simp)
     subst this
     exact hn.mI
    subst oU
    exact⟨_,w,m,zp (base:=some a) (w':=w) (wy _) zq (by simp[storeCells]),.refl hR,.empty a hm oy⟩
   |false=>
    have rA:¬ 0+k≤0:=EY hb
    rw[hb]at h
    obtain⟨h2,h3⟩:=cM h
    simp only[waM]at h2
    split at h3
    ·rename_i cells dF hr
     have tn:=(hR.obj r p _ hm hr).2.1
     rw[oy]at tn
     simp at tn
    ·rename_i cells g z hr
     obtain⟨h4,h5⟩:=cr h3
     simp only[wA,wbp,wbi]at h4
     obtain⟨⟨⟨h4,aj⟩,rfl⟩,_⟩:=h4
     simp only[we,wi,wk]at h5
     obtain⟨l,h6,H₁,h7,rfl,rfl⟩:=h5
     have iq:l=[]:=wby.1 (by rw[Cd h6];simp)
     subst iq
     obtain⟨⟨C,e₀,fr,c1,c2,c3,c4,c5⟩,_,hz⟩:=hR.obj r p _ hm hr
     obtain⟨nc,rest,aY,aV,bB,bP,ki⟩:=xI (s':= .slice (some a) 0 0) (base:=some a) (aS:=[]) (old':=[]) h2 rA (.nil m) (by simp) (by simp[Builtin.firstCells,loadCells,loadCellsFrom])
     have gU:∀ b,b<w.heap.size→(w.drew.alloc (.cells ([]++cG++rest).toArray e)).heap[b]? =w.heap[b]? :=fun b hb=>by
      show(w.heap.push _)[b]? =_
      rw[wbD,wI (by omega)]
     have jG:(w.drew.alloc (.cells ([]++cG++rest).toArray e)).heap[w.heap.size]? =some (.cells ([]++cG++rest).toArray e):=by
      show(w.heap.push _)[w.heap.size]? =_
      simp
     refine⟨_,_,_,aV,E1 (q:=⟨w.heap.size,0,([]++cG++rest).toArray.size,false,i.size⟩) hR hm aj hr h7 (fun b hb _=>gU b hb) (by show w.heap.size≤(w.heap.push _).size;simp)
      (by show w.heap.size<(w.heap.push _).size;simp) ⟨C,C,e₀,fr,c1,by rw[gU _ (hR.dom r p hm).2.1];exact c1,rfl,fun _ _=>rfl⟩ (.inr (wy _))
      ⟨⟨_,e,(0,0),jG,rfl,fun _ j _ h=>by simp at h,by simpa using bP,fun j x hx=>?_⟩,rfl,fun g' z' he=>?_⟩ ⟨rfl,rfl⟩,VRel.slice (o:=0) (jE _ _ _) aY (fun h=>by cases h) (fun _=>by simpa using ki)⟩
     ·obtain⟨x',e1,e2⟩:=bB j x hx
      exact⟨x',e1,e2.mono (oV _ hR.oW)⟩
     ·simp only[wi,wk]at he
      exact he.2
    ·simp at h3
 ·simp at h
end
section
variable[Maps]{B lo0:Nat}{m:Match}{H:Heap}{w:World}{E:Env}
end
section
variable{B lo0:Nat}{m:Match}{w:World}{P:Program}
theorem VA{v:Value}{y n:Nat}{k:IntKind}{i:Int}(hv:v= .int k i)(h:to? i y=some n)(code:BoundsCode)(w:World)(P:Program):(Instr.sliceBound v y code).run P w= .ok n w∧n≤y:=by
 subst hv
 obtain⟨rfl,h2⟩:=to?_eq h
 have:(0:Int)≤(n:Int)∧(n:Int)≤(y:Int):=by omega
 exact⟨by simp only[Instr.sliceBound,asIntOf,wB,wC,wu,this,and_self,wah,waD],h2⟩
theorem Nm{y y' n:Nat}{i:Int}(h:to? i y=some n)(hy:y≤y'):to? i y'=some n:=by
 obtain⟨rfl,h2⟩:=to?_eq h
 show(bif Nat.ble n y' then some n else none)=some n
 rw[wP (wK h2 hy)];rfl
theorem Aq{len cap uk:Nat}{lo hi mx:Option Value}{b:Nat×Nat×Nat}(h:bounds len cap lo hi mx=some b)(hl:len≤cap)(hc:cap≤uk)(sl:Bool)(w:World)(P:Program):
  b.1≤b.2.1∧b.2.1≤b.2.2∧b.2.2≤cap∧∃ m',(Instr.sliceBounds sl len uk lo hi mx).run P w= .ok (b.1,b.2.1,m') w∧((mx.isSome=false∧b.2.2=cap∧m'=uk)∨(mx.isSome=true∧m'=b.2.2)):=by
 simp only[bounds,we,wi]at h
 obtain⟨mm,h1,hh,h2,ll,h3,rfl⟩:=h
 have key:∀ {k:IntKind} {i:Int} {y n:Nat},to? i y=some n→∀ (code:BoundsCode),(Instr.sliceBound (.int k i) y code).run P w= .ok n w:=fun h code=>(VA rfl h code w P).1
 have tZ:ll≤hh∧(lo=none∧ll=0∨∃ k i,lo=some (.int k i)∧to? i hh=some ll):=by
  cases lo with
  |none=>simp only[wi]at h3;subst h3;exact⟨wJ _,.inl ⟨rfl,rfl⟩⟩
  |some v=>cases v<;>simp only[reduceCtorEq]at h3;exact⟨(to?_eq h3).2,.inr ⟨_,_,rfl,h3⟩⟩
 clear h3
 cases mx with
 |none=>
  simp only[wi]at h1
  subst h1
  have Nn:hh≤cap∧(hi=none∧hh=len∨∃ k i,hi=some (.int k i)∧to? i uk=some hh):=by
   cases hi with
   |none=>simp only[wi]at h2;subst h2;exact⟨hl,.inl ⟨rfl,rfl⟩⟩
   |some v=>cases v<;>simp only[reduceCtorEq]at h2;exact⟨(to?_eq h2).2,.inr ⟨_,_,rfl,Nm h2 hc⟩⟩
  clear h2
  refine⟨tZ.1,Nn.1,wy _,uk,?_,.inl ⟨rfl,rfl,rfl⟩⟩
  rcases tZ.2 with⟨rfl,rfl⟩|⟨k,i,rfl,h4⟩<;>rcases Nn.2 with⟨rfl,rfl⟩|⟨k',i',rfl,h5⟩<;>simp[Instr.sliceBounds, *]
 |some mv=>
  cases mv<;>simp only[reduceCtorEq]at h1
  rename_i mk mi
  have um:=Nm h1 hc
  have vl:=(to?_eq h1).2
  cases hi with
  |none=>simp at h2
  |some v=>
   cases v<;>simp only[reduceCtorEq]at h2
   rename_i hk hi
   refine⟨tZ.1,(to?_eq h2).2,vl,mm,?_,.inr ⟨rfl,rfl⟩⟩
   rcases tZ.2 with⟨rfl,rfl⟩|⟨k,i,rfl,h4⟩<;>simp[Instr.sliceBounds, *]
end
section
variable[Maps]{B lo0:Nat}{m:Match}{H:Heap}{w:World}{E:Env}
theorem Uq(hE:EnvOk E)(hR:Rel B lo0 m H w){t:TypeId}{x x' v:Value}{lo hi mx:Option Value}(h:sliceV E H t x lo hi mx=some v)(hx:VRel m x x'):
  ∃v',(Instr.sliceAt t x' lo hi mx).run E.P w= .ok v' w∧VRel m v v':=by
 simp only[sliceV,we]at h
 obtain⟨i,h1,h2⟩:=h
 split at h2
 ·rename_i s hd
  cases hx
  split at h2
  ·simp at h2
  ·simp only[we,wi]at h2
   obtain⟨b,h3,rfl⟩:=h2
   obtain⟨_,_,_,m',h4,_⟩:=Aq h3 (wy _) (wy _) false w E.P
   exact⟨_,by simp[Instr.sliceAt,Instr.slice,hE.desc h1 hd,h4],.string _⟩
 ·rename_i e r o len cap hd
  obtain⟨rQ,h2⟩:=cM h2
  simp only[waM,wbi]at rQ
  simp only[we]at h2
  obtain⟨b,h3,size,h4,h5⟩:=h2
  have bh:=hE.size h4
  ·cases hx with
   |slice hm hc hex GF=>
    rename_i c' p
    obtain⟨h6,h7,h8,m',h9,aY⟩:=Aq h3 rQ hc true w E.P
    have bE:(Instr.sliceAt t (.slice (some ⟨p.ax,p.base+o,none⟩) len c') lo hi mx).run E.P w=
      .ok (.slice (if m'=b.1 then some ⟨p.ax,p.base+o,none⟩else some ⟨p.ax,p.base+o+b.1*size,none⟩) (b.2.1-b.1) (m'-b.1)) w:=by
     simp only[Instr.sliceAt,Instr.slice,wB,hE.desc h1 hd,wu,h9,bh,wC,waE,add_plain]
    split at h5
    ·rename_i cells dF hr
     simp only[wi]at h5
     subst h5
     have xK:c'=cap:=hex (by rw[(hR.obj r p _ hm hr).2.1];rfl)
     subst xK
     have kW:m'=b.2.2:=by rcases aY with⟨_,h,h'⟩|⟨_,h⟩;rw[h,h'];exact h
     subst kW
     refine⟨_,bE,?_⟩
     cases hb:Nat.beq b.2.2 b.1 with
     |true=>
      rw[wF (by simpa using hb)]
      exact .slice hm (wy _) (fun _=>rfl) (fun h=>by rw[(hR.obj r p _ hm hr).2.1]at h;simp at h)
     |false=>
      rw[wI (by intro e;rw[e,wbc]at hb;cases hb),wbH]
      exact .slice hm (wy _) (fun _=>rfl) (fun h=>by rw[(hR.obj r p _ hm hr).2.1]at h;simp at h)
    ·rename_i cells g z dF hr
     obtain⟨aV,bB⟩:=cr h5
     simp only[wbp]at aV
     subst aV
     simp only[wi]at bB
     subst bB
     obtain⟨_,tn,hz⟩:=hR.obj r p _ hm hr
     have oy:p.exact=false:=by rw[tn];rfl
     have zr:p.z=z:=hz g z rfl
     have lK:=GF oy
     refine⟨_,bE,?_⟩
     rcases aY with⟨um,Dv,rfl⟩|⟨um,rfl⟩
     ·rw[um]
      simp only[wbj,wS]
      by_cases hl:m'=b.1
      ·rw[wF hl]
       have e1:b.2.1-b.1=0:=by omega
       have e2:b.2.2-b.1=0:=by omega
       have e3:m'-b.1=0:=by omega
       rw[e1,e2,e3]
       exact .empty _ hm oy
      ·rw[wI hl,wbH]
       refine .slice hm (by omega) (fun h=>by rw[oy]at h;cases h) (fun _=>?_)
       rw[zr]at lK⊢
       have e1:m'*z=b.1*z+(m'-b.1)*z:=by rw[←waW];congr 1;omega
       omega
     ·rw[um]
      simp only[wa9]
      have cp:(b.2.2-b.1)*z+b.1*z≤c'*z:=by rw[←waW];exact waQ _ (by omega)
      cases hb:Nat.beq b.2.2 b.1 with
      |true=>
       rw[wF (by simpa using hb)]
       refine .slice hm (wy _) (fun _=>rfl) (fun _=>?_)
       rw[zr]at lK⊢
       simp only[wai]
       omega
      |false=>
       rw[wI (by intro e;rw[e,wbc]at hb;cases hb),wbH]
       refine .slice hm (wy _) (fun _=>rfl) (fun _=>?_)
       rw[zr]at lK⊢
       simp only[wS]
       omega
    ·simp at h5
   |empty a hm oy=>
    rename_i p
    obtain⟨h6,h7,h8,m',h9,aY⟩:=Aq h3 rQ (wy _) true w E.P
    have e1:b.1=0:=by omega
    have e2:b.2.1=0:=by omega
    have e3:b.2.2=0:=by omega
    have e4:m'=0:=by rcases aY with⟨_,_,h⟩|⟨_,h⟩<;>omega
    have bE:(Instr.sliceAt t (.slice (some a) 0 0) lo hi mx).run E.P w= .ok (.slice (some a) 0 0) w:=by
     simp only[Instr.sliceAt,Instr.slice,wB,hE.desc h1 hd,wu,h9,bh,wC,e1,e2,e4,wah,wbS]
    split at h5
    ·rename_i cells dF hr
     rw[(hR.obj r p _ hm hr).2.1]at oy
     simp at oy
    ·obtain⟨_,bB⟩:=cr h5
     simp only[wi]at bB
     subst bB
     refine⟨_,bE,?_⟩
     rw[e1,e2,e3]
     exact .empty a hm oy
    ·simp at h5
 ·rename_i e len cap hd
  cases hx
  obtain⟨rQ,h2⟩:=cM h2
  simp only[waM,wbi]at rQ
  simp only[we,wi]at h2
  obtain⟨b,h3,size,h4,rfl⟩:=h2
  obtain⟨_,_,_,m',h9,aY⟩:=Aq h3 rQ (wy _) true w E.P
  have kW:m'=b.2.2:=by rcases aY with⟨_,h,h'⟩|⟨_,h⟩;rw[h,h'];exact h
  subst kW
  refine⟨_,?_,.qk _ _⟩
  simp only[Instr.sliceAt,Instr.slice,wB,hE.desc h1 hd,wu,h9,hE.size h4,wC,wcH,ite_self]
 ·rename_i n e r o hd
  simp only[we]at h2
  obtain⟨b,h3,size,h4,h5⟩:=h2
  have bh:=hE.size h4
  cases hx with
  |ptr hm=>
   rename_i p
   obtain⟨h6,h7,h8,m',h9,aY⟩:=Aq h3 (wy _) (wy _) false w E.P
   split at h5
   ·rename_i cells dF hr
    simp only[wi]at h5
    subst h5
    have kW:m'=b.2.2:=by rcases aY with⟨_,h,h'⟩|⟨_,h⟩;rw[h,h'];exact h
    subst kW
    have bE:(Instr.sliceAt t (.pointer (some ⟨p.ax,p.base+o,none⟩)) lo hi mx).run E.P w=
      .ok (.slice (some (if b.2.2=b.1 then⟨p.ax,p.base+o,none⟩else⟨p.ax,p.base+o+b.1*size,none⟩)) (b.2.1-b.1) (b.2.2-b.1)) w:=by
     simp only[Instr.sliceAt,Instr.sureAddr,wB,hE.desc h1 hd,wu,h9,bh,wC,add_plain]
    refine⟨_,bE,?_⟩
    cases hb:Nat.beq b.2.2 b.1 with
    |true=>
     rw[wF (by simpa using hb)]
     exact .slice hm (wy _) (fun _=>rfl) (fun h=>by rw[(hR.obj r p _ hm hr).2.1]at h;simp at h)
    |false=>
     rw[wI (by intro e;rw[e,wbc]at hb;cases hb),wbH]
     exact .slice hm (wy _) (fun _=>rfl) (fun h=>by rw[(hR.obj r p _ hm hr).2.1]at h;simp at h)
   ·simp at h5
 ·simp at h2
theorem Up(hE:EnvOk E)(hR:Rel B lo0 m H w){t:TypeId}{l c v:Value}{H':Heap}(h:makeSliceV E H t l c=some (v,H')):
  ∃v' w' m',(Instr.makeSlice t l c).run E.P w= .ok v' w'∧Good B lo0 m H w m' H' w'∧VRel m' v v':=by
 simp only[makeSliceV,we]at h
 obtain⟨i,h1,h2⟩:=h
 split at h2
 ·rename_i e kl l kc c hd
  split at h2
  ·rename_i l c
   simp only[we]at h2
   obtain⟨j,h3,z,hz,h4⟩:=h2
   obtain⟨h5,h6⟩:=cr h4
   simp only[wA,wbi,wbt,wbp]at h5
   obtain⟨⟨⟨⟨h5,h7⟩,h8⟩,h9⟩,aY⟩:=h5
   simp only[wi,wk]at h6
   obtain⟨rfl,rfl⟩:=h6
   obtain⟨info,hi,hb⟩:=hE.bytes h3
   obtain⟨hp,kQ⟩:=hE.zero h3 hz
   have hs:j.size≠0:=by intro e;rw[e]at h9;simp at h9
   have rZ:z.cells.size=j.size:=by rw[←waF,jD,aY]
   have wl:∀ n:Nat,n≤1000000000→IntKind.i64.wrap (Int.ofNat n)=(n:Int):=fun n hn=>by
    rw[Int.ofNat_eq_natCast]
    exact uo .i64 _ (by simp only[IntKind.min,IntKind.signed,IntKind.bits];simp only[wah];omega) (by simp only[IntKind.max,IntKind.signed,IntKind.bits];simp only[wah];omega)
   have e1:=wl l (by omega)
   have e2:=wl c h7
   have Np:∀ n:Nat,n≤c→¬ ((n:Int)<0)∧¬ ((info.bytes:Int)*(n:Int)>2^48):=fun n hn=>by
    refine⟨by omega,?_⟩
    have:n*info.bytes≤c*info.bytes:=waQ _ hn
    rw[hb]at*
    have e:((j.bytes:Int)*(n:Int))=((n*j.bytes:Nat):Int):=by rw[Int.natCast_mul];exact Int.mul_comm _ _
    rw[e]
    omega
   have uQ:LRel m (dr (cj z) c) (((Array.range (c*j.size)).map (z.cells[· %z.cells.size]!))).toList:=by
    rw[←rZ,zo,jD]
    exact(yh hp).repeat c
   refine⟨.slice (some ⟨w.heap.size,0,none⟩) l c,_,_,?_,Good.newRow hR (w':=w.alloc (.cells ((Array.range (c*j.size)).map (z.cells[· %z.cells.size]!)) e)) e rfl ⟨rfl,rfl⟩ uQ,
    VRel.slice (o:=0) (jE _ _ _) (wy _) (fun _=>rfl) (fun h=>by cases h)⟩
   have t1:(decide ((c:Int)<0)||decide ((info.bytes:Int)*(c:Int)>2^48)||decide ((l:Int)<0)||decide ((l:Int)>(c:Int)))=false:=by
    obtain⟨a1,a2⟩:=Np c (wy _)
    simp only[wbM,wal]
    exact⟨⟨⟨a1,a2⟩,by omega⟩,by omega⟩
   simp only[Instr.makeSlice,wB,hE.desc h1 hd,wu,asInt,asIntOf,wC,hi,e1,e2,t1,wG,waa,run_askRoom,waD,hE.oF h3]
   by_cases h0:c*j.size=0
   ·have As:c=0:=by rcases Nat.mul_eq_zero.1 h0 with h|h;exact h;exact absurd h hs
    subst As
    have Du:∀ f:Nat→Value,(Array.range 0).map f= #[]:=fun f=>by simp
    simp only[wb2,wah,wC,wu,Du,newRow,wB,wbN]
    rfl
   ·simp only[h0,waa,wB,kQ,wu,wC,newRow,wbN]
    rfl
  ·simp at h2
 ·simp at h2
theorem VB(hE:EnvOk E){t:TypeId}{k k':Value}(h:plainKey E t k=true)(hk:VRel m k k'):k'=k∧(∀w b,(Instr.checkKey b 10000 t k).run E.P w= .ok () w)∧
  ((∃kk n kd,E.P.underlying t=some (.int kk)∧k= .int kd n)∨(∃s,E.P.underlying t=some .string∧k= .string s)∨(∃b,E.P.underlying t=some .bool∧k= .bool b)):=by
 unfold plainKey at h
 split at h
 ·rename_i i hi
  obtain⟨info,_,hu,_⟩:=hE.inv hi
  split at h
  ·rename_i kk kd n hd
   rw[hd]at hu
   cases hk
   exact⟨rfl,fun w b=>(fun d=>by simp[Instr.checkKey,waN hu]:∀ d,(Instr.checkKey b (d+1) t _).run E.P w= .ok () w) 9999,.inl ⟨_,_,_,hu,rfl⟩⟩
  ·rename_i s hd
   rw[hd]at hu
   cases hk
   exact⟨rfl,fun w b=>(fun d=>by simp[Instr.checkKey,waN hu]:∀ d,(Instr.checkKey b (d+1) t _).run E.P w= .ok () w) 9999,.inr (.inl ⟨_,hu,rfl⟩)⟩
  ·rename_i s hd
   rw[hd]at hu
   cases hk
   exact⟨rfl,fun w b=>(fun d=>by simp[Instr.checkKey,waN hu]:∀ d,(Instr.checkKey b (d+1) t _).run E.P w= .ok () w) 9999,.inr (.inr ⟨_,hu,rfl⟩)⟩
  ·simp at h
 ·simp at h
end
section
variable[Maps]{B lo0:Nat}{m:Match}{H:Heap}{w:World}{E:Env}
def yi(m:Match)(es:List (Value×Value))(bm:List MapEntry):Prop:=bm.length=es.length∧∀ (i:Nat) (k v:Value),es[i]? =some (k,v)→∃ e':MapEntry,bm[i]? =some e'∧VRel m k e'.key∧VRel m v e'.val
end
section
variable{B lo0:Nat}{m:Match}{w:World}{P:Program}
theorem Nq{kind:TypeDesc}{k:Value}(hk:(∃kk kd n,kind= .int kk∧k= .int kd n)∨(∃s,kind= .string∧k= .string s)∨(∃b,kind= .bool∧k= .bool b)):
  ∀{es:List (Value×Value)} {bm:List MapEntry} {i:Nat} {f:Option (Nat×Value)},findV k es i=some f→yi m es bm→
   ∃f',Instr.findNow kind k bm i=some f'∧(match f with
    |none=>f'=none
    |some (j,v)=>∃ v',f'=some (j,v')∧VRel m v v'∧i≤j∧∃ key,es[j-i]? =some (key,v)∧keyEq k key=some true)
 |[],bm,i,f,h,he=>by
  have:bm=[]:=wby.1 (by simpa using he.1)
  subst this
  simp only[findV,wi]at h
  subst h
  exact⟨none,rfl,rfl⟩
 |(key,v)::es,bm,i,f,h,he=>by
  obtain⟨e',h1,h2,h3⟩:=he.2 0 key v rfl
  cases bm with
  |nil=>simp at h1
  |cons oB VC=>
   simp only[wQ,wi]at h1
   subst h1
   simp only[findV,we]at h
   obtain⟨b,h4,h5⟩:=h
   have hs:Instr.sameNow kind k oB.key=some b:=by
    rcases hk with⟨kk,kd,n,rfl,rfl⟩|⟨s,rfl,rfl⟩|⟨b',rfl,rfl⟩
    ·cases key<;>simp only[keyEq,reduceCtorEq]at h4
     obtain⟨h6,h7⟩:=cr h4
     have:=vA h6
     subst this
     cases mQ:oB.key<;>rw[mQ]at h2<;>cases h2
     simp only[wi,gI]at h7
     simp[Instr.sameNow,←h7]
    ·cases key<;>simp only[keyEq,reduceCtorEq,wi]at h4
     cases mQ:oB.key<;>rw[mQ]at h2<;>cases h2
     rw[←h4]
     simp[Instr.sameNow,mL,beq_toListBytes]
    ·cases key<;>simp only[keyEq,reduceCtorEq,wi]at h4
     cases mQ:oB.key<;>rw[mQ]at h2<;>cases h2
     rw[←h4]
     simp[Instr.sameNow]
   cases b with
   |true=>
    simp only[wi]at h5
    subst h5
    exact⟨some (i,oB.val),by simp[Instr.findNow,hs],oB.val,rfl,h3,wy _,key,by simp,h4⟩
   |false=>
    have ug:yi m es VC:=⟨by simpa using he.1,fun j k' v' hj=>by simpa using he.2 (j+1) k' v' (by simpa using hj)⟩
    obtain⟨f',h6,h7⟩:=Nq hk h5 ug
    refine⟨f',by simp[Instr.findNow,hs,h6],?_⟩
    cases f with
    |none=>exact h7
    |some jv=>
     obtain⟨j,v₁⟩:=jv
     obtain⟨v',h8,h9,aY,Dw,aV,bB⟩:=h7
     refine⟨v',h8,h9,by omega,Dw,?_,bB⟩
     rw[show j-i=(j-(i+1))+1 by omega]
     simpa using aV
theorem GG{kt:TypeId}{k:Value}{P:Program}(hk:∃ kind,P.underlying kt=some kind∧((∃kk kd n,kind= .int kk∧k= .int kd n)∨(∃s,kind= .string∧k= .string s)∨(∃b,kind= .bool∧k= .bool b)))
  {es:List (Value×Value)} {bm:List MapEntry} {f:Option (Nat×Value)} (h:findV k es 0=some f) (he:yi m es bm):
  ∃f',(∀w,(Instr.findKey kt k bm).run P w= .ok f' w)∧(match f with
    |none=>f'=none
    |some (j,v)=>∃ v',f'=some (j,v')∧VRel m v v'∧∃ key,es[j]? =some (key,v)∧keyEq k key=some true):=by
 obtain⟨kind,hu,hk⟩:=hk
 obtain⟨f',h1,h2⟩:=Nq hk h he
 refine⟨f',fun w=>by simp[Instr.findKey,waN hu,h1],?_⟩
 cases f with
 |none=>exact h2
 |some jv=>obtain⟨j,v⟩:=jv;obtain⟨v',h3,h4,_,key,h5,h6⟩:=h2;exact⟨v',h3,h4,key,by simpa using h5,h6⟩
end
section
variable[Maps]{B lo0:Nat}{m:Match}{H:Heap}{w:World}{E:Env}
theorem GH(hE:EnvOk E){t:TypeId}{k k':Value}(h:plainKey E t k=true)(hk:VRel m k k'):k'=k∧(∀w b,(Instr.checkKey b 10000 t k).run E.P w= .ok () w)∧
  ∃kind,E.P.underlying t=some kind∧((∃kk kd n,kind= .int kk∧k= .int kd n)∨(∃s,kind= .string∧k= .string s)∨(∃b,kind= .bool∧k= .bool b)):=by
 obtain⟨h1,h2,h3⟩:=VB hE h hk
 refine⟨h1,h2,?_⟩
 rcases h3 with⟨kk,n,kd,h4,h5⟩|⟨s,h4,h5⟩|⟨b,h4,h5⟩
 ·exact⟨_,h4,.inl ⟨kk,kd,n,rfl,h5⟩⟩
 ·exact⟨_,h4,.inr (.inl ⟨s,rfl,h5⟩)⟩
 ·exact⟨_,h4,.inr (.inr ⟨b,rfl,h5⟩)⟩
end
section
variable{B lo0:Nat}{m:Match}{w:World}{P:Program}
theorem Nr{es:List (Value×Value)}{bm:Array MapEntry}(h1:bm.size=es.length)(h2:∀ i k v,es[i]? =some (k,v)→∃ e':MapEntry,bm[i]? =some e'∧VRel m k e'.key∧VRel m v e'.val∧e'.born=i):yi m es bm.toList:=
 ⟨by simpa using h1,fun i k v h=>let⟨e',a,b,c,_⟩:=h2 i k v h;⟨e',by simpa using a,b,c⟩⟩
theorem Ns{es:List ((Value×Value)×Nat)}{bm:Array MapEntry}(h1:bm.size=es.length)(h2:∀ (i:Nat) (k v:Value) (b:Nat),es[i]? =some ((k,v),b)→∃ e':MapEntry,bm[i]? =some e'∧VRel m k e'.key∧VRel m v e'.val∧e'.born=b):yi m (es.map Prod.fst) bm.toList:=
 ⟨by simpa using h1,fun i k v h=>by
  rw[war,wa6]at h
  obtain⟨⟨⟨k',v'⟩,b⟩,h3,h4⟩:=h
  cases h4
  obtain⟨e',a,b,c,_⟩:=h2 i _ _ _ h3
  exact⟨e',by simpa using a,b,c⟩⟩
theorem Nt:∀ (l:List (Value×Value)) (k i:Nat),(tI l k)[i]? =(l[i]?).map fun e=>(e,k+i)
 |[],k,i=>by simp[tI]
 |e::l,k,0=>by simp[tI]
 |e::l,k,i+1=>by
  simp only[tI,wbo,Nt l (k+1) i,show k+1+i=k+(i+1) by omega]
theorem Nu:∀ (l:List (Value×Value)) (k:Nat),(tI l k).length=l.length
 |[],k=>rfl
 |e::l,k=>by simp[tI,Nu l (k+1)]
theorem Nv(bm:Array MapEntry)(j:Nat):(bm.eraseIdxIfInBounds j).toList=bm.toList.eraseIdx j:=by
 unfold Array.eraseIdxIfInBounds
 split
 ·exact Array.toList_eraseIdx ..
 ·rename_i h
  rw[List.eraseIdx_of_length_le (by rw[waF];omega)]
theorem iu{r:Nat}{o:Obj}(h:w.heap[r]? =some o)(hn:∀ c e f,o≠ .cells c e f)(P:Program):(getObj r).run P w= .ok o w:=by
 cases o<;>first|(exact absurd rfl (hn _ _ _))|simp[getObj,Sem.run,h]
theorem ql{r:Nat}{o o':Obj}(h:w.heap[r]? =some o)(hn:∀ c e f,o≠ .cells c e f)(P:Program):(setObj r o').run P w= .ok () (dR w r o'):=by
 cases o<;>first|(exact absurd rfl (hn _ _ _))|simp[setObj,Sem.run,h,dR]
end
section
variable[Maps]{B lo0:Nat}{m:Match}{H:Heap}{w:World}{E:Env}
theorem Uv(hE:EnvOk E)(hR:Rel B lo0 m H w){t:TypeId}{x x' k k' v:Value}{ok:Bool}(h:lookupV E H t x k ok=some v)(hx:VRel m x x')(hk:VRel m k k'):
  ∃v',(Instr.lookup t x' k' ok).run E.P w= .ok v' w∧VRel m v v':=by
 simp only[lookupV,we]at h
 obtain⟨i,h1,h2⟩:=h
 split at h2
 ·rename_i kt et hd
  obtain⟨h3,h4⟩:=cM h2
  simp only[waM]at h3
  simp only[we]at h4
  obtain⟨es,h5,f,h6,h7⟩:=h4
  obtain⟨rfl,pz,pq⟩:=GH hE h3 hk
  have rT:∃ (bm:Array MapEntry) (GI:Nat),yi m es bm.toList∧((x'= .map none∧bm= #[])∨∃ r,x'= .map (some r)∧w.heap[r]? =some (.map bm GI)):=by
   split at h5
   ·cases hx
    simp only[wi]at h5;subst h5
    exact⟨#[],0,⟨rfl,fun i k v h=>by simp at h⟩,.inl ⟨rfl,rfl⟩⟩
   ·rename_i r
    split at h5
    ·rename_i GJ hr
     simp only[wi]at h5;subst h5
     cases hx with
     |map hm=>
      obtain⟨bm,a,b,c⟩:=hR.obj r _ _ hm hr
      exact⟨bm,_,Nr b c,.inr ⟨_,rfl,a⟩⟩
    ·rename_i GJ GI hr
     simp only[wi]at h5;subst h5
     cases hx with
     |map hm=>
      obtain⟨bm,a,b,c⟩:=hR.obj r _ _ hm hr
      exact⟨bm,_,Ns b c,.inr ⟨_,rfl,a⟩⟩
    ·simp at h5
   ·simp at h5
  obtain⟨bm,GI,he,cI⟩:=rT
  obtain⟨f',hf,dZ⟩:=GG (P:=E.P) pq h6 he
  have VD:∀ j v',f'=some (j,v')→(Instr.lookup t x' k' ok).run E.P w= .ok (if ok then .tuple #[v',.bool true]else v') w:=by
   intro j v' hv
   subst hv
   rcases cI with⟨rfl,rfl⟩|⟨r,rfl,hr⟩
   ·simp only[Instr.lookup,wB,hE.desc h1 hd,wu,wC,pz,hf]
   ·simp only[Instr.lookup,wB,hE.desc h1 hd,wu,wC,iu hr (fun c e f h=>by cases h),pz,hf]
  have VE:∀ z,f'=none→(zeroValue et).run E.P w= .ok z w→(Instr.lookup t x' k' ok).run E.P w= .ok (if ok then .tuple #[z,.bool false]else z) w:=by
   intro z hv hz
   subst hv
   rcases cI with⟨rfl,rfl⟩|⟨r,rfl,hr⟩
   ·simp only[Instr.lookup,wB,hE.desc h1 hd,wu,wC,pz,hf,hz]
   ·simp only[Instr.lookup,wB,hE.desc h1 hd,wu,wC,iu hr (fun c e f h=>by cases h),pz,hf,hz]
  cases f with
  |some jv=>
   obtain⟨j,v₀⟩:=jv
   obtain⟨v',rfl,hv,_⟩:=dZ
   simp only[wi]at h7
   subst h7
   refine⟨_,VD j v' rfl,?_⟩
   cases ok
   ·exact hv
   ·exact VRel.uW (.cons hv (.one (.bool _)))
  |none=>
   subst dZ
   simp only[we,wi]at h7
   obtain⟨j,hj,z,hz,rfl⟩:=h7
   obtain⟨hp,kQ⟩:=hE.zero hj hz
   refine⟨_,VE z rfl (kQ w),?_⟩
   cases ok
   ·exact plainV_rel hp
   ·exact VRel.uW (.cons (plainV_rel hp) (.one (.bool _)))
 ·simp at h2
end
section
variable{B lo0:Nat}{m:Match}{w:World}{P:Program}
theorem Nw(v:Value):∀ (l:List (Value×Value)) (i:Nat),(setVal v l i).length=l.length
 |[],_=>rfl
 |_::_,0=>rfl
 |_::l,i+1=>by simp[setVal,Nw v l i]
theorem Nx(v:Value):∀ (l:List (Value×Value)) (i j:Nat),(setVal v l i)[j]? =if j=i then(l[j]?).map fun e=>(e.1,v)else l[j]?
 |[],i,j=>by simp[setVal]
 |e::l,0,j=>by cases j<;>simp[setVal]
 |e::l,i+1,j=>by cases j<;>simp[setVal,Nx v l i]
end
section
variable[Maps]{B lo0:Nat}{m:Match}{H:Heap}{w:World}{E:Env}
theorem Gk{r:Nat}{es:List (Value×Value)}{H':Heap}(h:H.po r es=some H'):H.lo≤r∧H'.next=H.next∧H'.lo=H.lo∧H'.grps=H.grps∧
  ∀j x,H'.objs.get j=some x→(j=r∧x= .map es)∨(j≠r∧H.objs.get j=some x):=by
 unfold Heap.po at h
 obtain⟨h1,h2⟩:=cM h
 simp only[waM,wbi]at h1
 simp only[Tr.force_eq,wi]at h2
 subst h2
 exact⟨h1,rfl,rfl,rfl,fun j x hx=>Tr.dq hx⟩
theorem Good.exchange(hR:Rel B lo0 m H w){r:Nat}{p:dV}{o o':AObj}{O':Obj}{H':Heap}(hm:m r=some p)(hr:H.lo≤r)(ho:H.objs.get r=some o)(fK:∀ c g t,o≠ .row c g t)
  (uc:∀ c g t,o'≠ .row c g t) (hn:H'.next=H.next) (hl:H'.lo=H.lo) (hg:H'.grps=H.grps)
  (iK:∀ j x,H'.objs.get j=some x→(j=r∧x=o')∨(j≠r∧H.objs.get j=some x)) (dn:iZ true m p (dR w p.ax O') o'):Good B lo0 m H w m H' (dR w p.ax O'):=by
 refine Good.eD hR hm hr ho hn hl iK (fun g l h=> .inl (by rw[hg]at h;exact h)) (fun j q x hj hq hx hb=>?_) (fun c g t h=>absurd h (uc c g t)) (fun _=>dn) (fun b hb=>uR _ hb) (xL _) ⟨rfl,rfl⟩
 rcases iK j x hx with⟨h,_⟩|⟨_,h⟩
 ·exact hj h
 ·have:=hR.sep r j p q o x (wbl hj) (wK hR.lo hr) hm hq ho h hb.symm
  cases o<;>first|(exact absurd rfl (fK _ _ _))|simp[Mates]at this
end
section
variable{B lo0:Nat}{m:Match}{w:World}{P:Program}
theorem CQ{a b:ByteArray}(h:mL a b=true):a=b:=by
 have h2:a.toList=b.toList:=by simpa[mL]using h
 rw[ByteArray.toList_eq,ByteArray.toList_eq]at h2
 obtain⟨⟨x⟩⟩:=a
 obtain⟨⟨y⟩⟩:=b
 simp only at h2
 subst h2
 rfl
theorem Gs{a b:Value}(h:same1 a b=true):a=b:=by
 unfold same1 at h
 split at h<;>simp_all[gI]
 ·obtain⟨h1,h2⟩:=h
  exact vA h1
 ·exact CQ h
theorem Ny:∀ {a b:List Value},sameL a b=true→a=b
 |[],[],_=>rfl
 |x::l,y::r,h=>by
  simp only[sameL,wA]at h
  rw[Gs h.1,Ny h.2]
 |[],_::_,h=>by simp[sameL]at h
 |_::_,[],h=>by simp[sameL]at h
theorem TK{a b:Value}(h:sameV a b=true):a=b:=by
 unfold sameV at h
 split at h
 ·rw[wbW.1 (Ny h)]
 ·exact Gs h
theorem VF{k key:Value}{m:Match}{Dw:Value}(h:keyEq k key=some true)(hr:VRel m key Dw):Instr.sameBits 10000 Dw k=true:=by
 cases k<;>cases key<;>simp only[keyEq,reduceCtorEq,wi]at h
 ·cases hr
  simp only[wbO]at h
  simp[Instr.sameBits,h]
 ·cases hr
  obtain⟨h1,h2⟩:=cr h
  simp only[wi,gI,wbO]at h2
  simp[Instr.sameBits,vA h1,h2]
 ·cases hr
  have:=CQ h
  subst this
  simp[Instr.sameBits,beq_toListBytes]
end
section
variable[Maps]{B lo0:Nat}{m:Match}{H:Heap}{w:World}{E:Env}
theorem Uw(hE:EnvOk E)(hR:Rel B lo0 m H w){t:TypeId}{x x' k k' v v':Value}{H':Heap}(h:mapUpdateV E H t x k v=some H')(hx:VRel m x x')(hk:VRel m k k')(hv:VRel m v v'):
  ∃w',(Instr.mapUpdate t x' k' v').run E.P w= .ok () w'∧Good B lo0 m H w m H' w':=by
 simp only[mapUpdateV,we]at h
 obtain⟨i,h1,h2⟩:=h
 split at h2
 ·rename_i kt et r hd
  obtain⟨h3,h4⟩:=cM h2
  simp only[waM]at h3
  obtain⟨rfl,pz,pq⟩:=GH hE h3 hk
  cases hx with
  |map hm=>
   rename_i p
   split at h4
   ·rename_i es hr
    simp only[we]at h4
    obtain⟨f,h5,h6⟩:=h4
    obtain⟨bm,a,b,c⟩:=hR.obj r p _ hm hr
    obtain⟨f',hf,dZ⟩:=GG (P:=E.P) pq h5 (Nr b c)
    have hlt:=(hR.dom r p hm).2.1
    cases f with
    |some jv=>
     obtain⟨j,v₀⟩:=jv
     obtain⟨v₁,rfl,hv₁,key,h7,h8⟩:=dZ
     simp only at h6
     obtain⟨h9,aY,aV,bB,bP⟩:=Gk h6
     obtain⟨e',e1,e2,e3,e4⟩:=c j key v₀ h7
     have zQ:=VF h8 e2
     refine⟨dR w p.ax (.map (bm.modify j fun e=>{e with key:=k',val:=v'}) bm.size),?_,Good.exchange hR hm h9 hr (fun c g t h=>by cases h) (fun c g t h=>by cases h) aY aV bB bP
      ⟨bm.modify j fun e=>{e with key:=k',val:=v'},by rw[nK _ hlt];simp,by simp[Nw,b],fun i' k₁ v₁ hi=>?_⟩⟩
     ·simp only[Instr.mapUpdate,wB,hE.desc h1 hd,wu,iu a (fun c e f h=>by cases h),pz,hf,e1,waE,wbr,Instr.keyThatStays,zQ,wah,wC,ql a (fun c e f h=>by cases h)]
     ·rw[Nx]at hi
      by_cases kp:i'=j
      ·subst kp
       rw[wF rfl,h7]at hi
       simp only[waE,wi,wk]at hi
       obtain⟨rfl,rfl⟩:=hi
       refine⟨{e' with key:=k',val:=v'},by simp[wcI,e1],?_,hv,e4⟩
       have Nz:k'=e'.key:=by
        cases k'<;>cases key<;>simp only[keyEq,reduceCtorEq,wi]at h8
        ·cases mQ:e'.key<;>rw[mQ]at e2<;>cases e2
         simp only[wbO]at h8;rw[h8]
        ·cases mQ:e'.key<;>rw[mQ]at e2<;>cases e2
         obtain⟨q1,q2⟩:=cr h8
         simp only[wi,gI,wbO]at q2
         rw[vA q1,q2]
        ·cases mQ:e'.key<;>rw[mQ]at e2<;>cases e2
         rw[CQ h8]
       simp only
       rw[Nz]
       exact e2
      ·rw[wI kp]at hi
       obtain⟨oB,g1,g2,g3,g4⟩:=c i' k₁ v₁ hi
       exact⟨oB,by rw[wcI,wI (wbl kp)];exact g1,g2,g3,g4⟩
    |none=>
     subst dZ
     simp only at h6
     obtain⟨h9,aY,aV,bB,bP⟩:=Gk h6
     refine⟨dR w p.ax (.map (bm.push {key:=k',val:=v',born:=bm.size}) (bm.size+1)),?_,Good.exchange hR hm h9 hr (fun c g t h=>by cases h) (fun c g t h=>by cases h) aY aV bB bP
      ⟨bm.push {key:=k',val:=v',born:=bm.size},by rw[nK _ hlt];simp,by simp[b],fun i' k₁ v₁ hi=>?_⟩⟩
     ·simp only[Instr.mapUpdate,wB,hE.desc h1 hd,wu,iu a (fun c e f h=>by cases h),pz,hf,ql a (fun c e f h=>by cases h)]
     ·by_cases tu:i'<es.length
      ·rw[waf tu]at hi
       obtain⟨oB,g1,g2,g3,g4⟩:=c i' k₁ v₁ hi
       exact⟨oB,by rw[wbD,wI (by omega)];exact g1,g2,g3,g4⟩
      ·have yj:=(wD.1 hi).1
       simp only[wN,wY,waA]at yj
       have:i'=es.length:=by omega
       subst this
       rw[waB (wy _)]at hi
       simp only[wbS,wQ,wi,wk]at hi
       obtain⟨rfl,rfl⟩:=hi
       exact⟨_,by rw[wbD,wF b.symm],hk,hv,b⟩
   ·simp at h4
 ·simp at h2
theorem VG(hR:Rel B lo0 m H w){r:Nat}{p:dV}{es:List ((Value×Value)×Nat)}{c:Nat}(hm:m r=some p)(h:mapOf H r=some (es,c)):
  (∃o,H.objs.get r=some o∧∀ c g t,o≠ .row c g t)∧∃ bm:Array MapEntry,w.heap[p.ax]? =some (.map bm c)∧bm.size=es.length∧∀ (i:Nat) (k v:Value) (b:Nat),es[i]? =some ((k,v),b)→∃ e':MapEntry,bm[i]? =some e'∧VRel m k e'.key∧VRel m v e'.val∧e'.born=b:=by
 unfold mapOf at h
 split at h
 ·rename_i GJ hr
  simp only[wi,wk]at h
  obtain⟨rfl,rfl⟩:=h
  obtain⟨bm,a,b,d⟩:=hR.obj r p _ hm hr
  refine⟨⟨_,hr,fun c g t h=>by cases h⟩,bm,by rw[←b];exact a,by rw[Nu];exact b,fun i k v n hi=>?_⟩
  rw[Nt,wa6]at hi
  obtain⟨e,h1,h2⟩:=hi
  simp only[wau,wk]at h2
  obtain⟨rfl,rfl⟩:=h2
  exact d i k v h1
 ·rename_i GJ c₀ hr
  simp only[wi,wk]at h
  obtain⟨rfl,rfl⟩:=h
  exact⟨⟨_,hr,fun c g t h=>by cases h⟩,hR.obj r p _ hm hr⟩
 ·simp at h
theorem MG{r:Nat}{es:List ((Value×Value)×Nat)}{c:Nat}{H':Heap}(h:H.Fz r es c=some H'):H.lo≤r∧H'.next=H.next∧H'.lo=H.lo∧H'.grps=H.grps∧
  ∀j x,H'.objs.get j=some x→(j=r∧x= .lQ es c)∨(j≠r∧H.objs.get j=some x):=by
 unfold Heap.Fz at h
 obtain⟨h1,h2⟩:=cM h
 simp only[waM,wbi]at h1
 simp only[Tr.force_eq,wi]at h2
 subst h2
 exact⟨h1,rfl,rfl,rfl,fun j x hx=>Tr.dq hx⟩
theorem VH(hE:EnvOk E)(hR:Rel B lo0 m H w){t:TypeId}{x x' k k':Value}{H':Heap}{ts:Array TypeId}{bF:Array Value}{ty:TypeId}(h:zH E H t x k=some H')(hx:VRel m x x')(hk:VRel m k k')(ht:ts[0]? =some t)(h0:bF[0]? =some x')(eg:bF[1]? =some k'):
  ∃w',(Builtin.delete_ ts ty bF).run E.P w= .ok (.tuple #[]) w'∧Good B lo0 m H w m H' w':=by
 simp only[zH,we]at h
 obtain⟨i,h1,h2⟩:=h
 split at h2
 ·rename_i kt et r hd
  obtain⟨h3,h4⟩:=cM h2
  simp only[waM]at h3
  obtain⟨rfl,pz,pq⟩:=GH hE h3 hk
  simp only[we]at h4
  obtain⟨⟨es,c⟩,h5,f,h6,h7⟩:=h4
  cases hx with
  |map hm=>
   rename_i p
   obtain⟨⟨o,ho,fK⟩,bm,a,b,d⟩:=VG hR hm h5
   obtain⟨f',hf,dZ⟩:=GG (P:=E.P) pq h6 (Ns b d)
   cases f with
   |none=>
    simp only[wi]at h7
    subst h7
    subst dZ
    refine⟨dR w p.ax (.map bm c),?_,by rw[M7 a];exact .refl hR⟩
    simp only[Builtin.delete_,ht,h0,eg,wB,hE.desc h1 hd,wu,iu a (fun c e f h=>by cases h),pz,hf,ql a (fun c e f h=>by cases h),wC]
   |some jv=>
    obtain⟨j,v₀⟩:=jv
    obtain⟨v',rfl,_,_⟩:=dZ
    simp only at h7
    obtain⟨g1,g2,g3,g4,g5⟩:=MG h7
    have hb:p.ax<w.heap.size:=(w0.1 a).1
    refine⟨dR w p.ax (.map (bm.eraseIdxIfInBounds j) c),?_,Good.exchange hR hm g1 ho fK (fun c g t h=>by cases h) g2 g3 g4 g5 ⟨_,nK _ hb,?_,fun i k v n hi=>?_⟩⟩
    ·simp only[Builtin.delete_,ht,h0,eg,wB,hE.desc h1 hd,wu,iu a (fun c e f h=>by cases h),pz,hf,ql a (fun c e f h=>by cases h),wC]
    ·rw[←waF,Nv,List.length_eraseIdx,List.length_eraseIdx,waF,b]
    ·rw[List.getElem?_eraseIdx]at hi
     have he:∀ i,(bm.eraseIdxIfInBounds j)[i]? =if i<j then bm[i]? else bm[i+1]? :=fun i=>by
      rw[←wao,Nv,List.getElem?_eraseIdx,wao,wao]
     rw[he]
     split at hi
     ·rename_i kp;rw[wF kp];exact d i k v n hi
     ·rename_i kp;rw[wI kp];exact d (i+1) k v n hi
 ·simp at h2
end
section
variable[Maps]{B lo0:Nat}{m:Match}{H:Heap}{w:World}{E:Env}
end
section
variable{B lo0:Nat}{m:Match}{w:World}{P:Program}
theorem VI{ts:Array TypeId}{args:Array Value}{t t' e:TypeId}{s x:Value}{base:Option Addr}{dA gd n size:Nat}{e₂:TypeId}{P:Program}(ht:ts[0]? =some t)(qF:ts[1]? =some t')(hs:args[0]? =some s)(hx:args[1]? =some x)
  (oc:s= .slice base dA gd) (hd:∀ w,(underlying t).run P w= .ok (.slice e) w) (jk:∀ w,(underlying t').run P w= .ok (.slice e₂) w) (bh:∀ w,(sizeOf e).run P w= .ok size w) (cg:(Builtin.lenOf x).run P w= .ok n w) (ty:TypeId):
  (Builtin.append_ ts ty args).run P w=(appendTail size e s base dA gd n false (Builtin.mayShare size dA n base x) (Builtin.firstCells size n x)).run P w:=by
 subst oc
 simp only[Builtin.append_,appendTail,ht,qF,hs,hx,wB,hd,jk,bh,wu,wC,wG,waa,cg,wb0,wah]
 rfl
theorem VJ{ts:Array TypeId}{args:Array Value}{t t' e:TypeId}{s x:Value}{base:Option Addr}{dA gd n size:Nat}{kd k:IntKind}{j:Int}{P:Program}{info:TypeInfo}(ht:ts[0]? =some t)(qF:ts[1]? =some t')(hs:args[0]? =some s)
  (hx:args[1]? =some x) (oc:s= .slice base dA gd) (VK:x= .int k j) (hd:∀ w,(underlying t).run P w= .ok (.slice e) w) (jk:∀ w,(underlying t').run P w= .ok (.int kd) w) (bh:∀ w,(sizeOf e).run P w= .ok size w)
  (hj:IntKind.i64.wrap j=(n:Int)) (hi:∀ w,(typeInfo e).run P w= .ok info w) (hb:n*info.bytes≤10000000000) (ty:TypeId):
  (Builtin.append_ ts ty args).run P w=(appendTail size e s base dA gd n true (Builtin.mayShare size dA n base x)
   (if n*size=0 then pure #[]else do pure (Builtin.zeroCells (←zeroValue e).cells n))).run P w:=by
 subst oc;subst VK
 have h1:¬ ((n:Int)<0):=by omega
 have h2:¬ ((n:Int)*(info.bytes:Int)>2^48):=by
  rw[←Int.natCast_mul];omega
 simp only[Builtin.append_,appendTail,ht,qF,hs,hx,wB,hd,jk,bh,wu,wC,wah,asInt,asIntOf,hj,h1,waa,hi,h2,waD,wa7,wG]
 rfl
theorem NA{P:Program}:∀ {l:List Value} {x v:Value},minV x l=some v→∀ {x':Value} {l':List Value},VRel m x x'→LRel m l l'→∃ v',(List.foldlM Builtin.min2 x' l').run P w= .ok v' w∧VRel m v v'
 |[],x,v,h,x',l',hx,hl=>by
  have:=hl.mI
  subst this
  simp only[minV,wi]at h
  subst h
  exact⟨x',rfl,hx⟩
 |y::l,x,v,h,x',l',hx,hl=>by
  obtain⟨y',r,rfl,hy,hr⟩:=hl.oz
  cases x<;>cases y<;>simp only[minV,reduceCtorEq]at h
  cases hx;cases hy
  obtain⟨v',h1,h2⟩:=NA h (.int _ _) hr
  refine⟨v',?_,h2⟩
  simp only[List.foldlM_cons,wB,Builtin.min2,wC,wu]
  rename_i k a k' b
  have e:(bif oC b a then b else a)=(if b<a then b else a):=by rw[qG];by_cases hb:b<a<;>simp[hb]
  rw[e]at h1
  exact h1
theorem NB{P:Program}:∀ {l:List Value} {x v:Value},xP x l=some v→∀ {x':Value} {l':List Value},VRel m x x'→LRel m l l'→∃ v',(List.foldlM Builtin.max2 x' l').run P w= .ok v' w∧VRel m v v'
 |[],x,v,h,x',l',hx,hl=>by
  have:=hl.mI
  subst this
  simp only[xP,wi]at h
  subst h
  exact⟨x',rfl,hx⟩
 |y::l,x,v,h,x',l',hx,hl=>by
  obtain⟨y',r,rfl,hy,hr⟩:=hl.oz
  cases x<;>cases y<;>simp only[xP,reduceCtorEq]at h
  cases hx;cases hy
  obtain⟨v',h1,h2⟩:=NB h (.int _ _) hr
  refine⟨v',?_,h2⟩
  simp only[List.foldlM_cons,wB,Builtin.max2,wC,wu]
  rename_i k a k' b
  have e:(bif oC a b then b else a)=(if b>a then b else a):=by rw[qG];by_cases hb:a<b<;>simp[hb]
  rw[e]at h1
  exact h1
theorem GK{m:Match}{x y:Value}{l:List Value}{args:Array Value}(h:LRel m (x::y::l) args.toList):∃ x' y',args[0]? =some x'∧args[1]? =some y'∧VRel m x x'∧VRel m y y':=by
 obtain⟨x',h1,h2⟩:=h.get (i:=0) rfl
 obtain⟨y',h3,h4⟩:=h.get (i:=1) rfl
 exact⟨x',y',by simpa using h1,by simpa using h3,h2,h4⟩
theorem NC{m:Match}{x:Value}{l:List Value}{args:Array Value}(h:LRel m (x::l) args.toList):∃ x',args[0]? =some x'∧VRel m x x':=by
 obtain⟨x',h1,h2⟩:=h.get (i:=0) rfl
 exact⟨x',by simpa using h1,h2⟩
theorem yk{ts:Array TypeId}{l:List TypeId}(h:ts.toList=l)(i:Nat):ts[i]? =l[i]? :=by rw[←h];simp
end
section
variable[Maps]{B lo0:Nat}{m:Match}{H:Heap}{w:World}{E:Env}
theorem VL(hE:EnvOk E)(hR:Rel B lo0 m H w){ts:Array TypeId}{t:TypeId}{tl:List TypeId}(ht:ts.toList=t::tl){x:Value}{l:List Value}{args:Array Value}(ha:LRel m (x::l) args.toList){v:Value}{H':Heap}
  (h:builtinV E H .len (t::tl) (x::l)=some (v,H')) (ty:TypeId):H'=H∧∃ v',(Builtin.len_ ts ty args).run E.P w= .ok v' w∧VRel m v v':=by
 obtain⟨x',hx,hr⟩:=NC ha
 have jo:ts[0]? =some t:=by rw[yk ht];rfl
 simp only[builtinV,we]at h
 obtain⟨i,h1,h2⟩:=h
 split at h2
 ·rename_i hd;cases hr
  simp only[wi,wk]at h2;obtain⟨rfl,rfl⟩:=h2
  exact⟨rfl,_,by simp[Builtin.len_,jo,hx,hE.desc h1 hd,goInt],.int _ _⟩
 ·rename_i hd
  simp only[wi,wk]at h2;obtain⟨rfl,rfl⟩:=h2
  exact⟨rfl,_,by simp[Builtin.len_,jo,hx,hE.desc h1 hd,goInt],.int _ _⟩
 ·rename_i hd
  simp only[wi,wk]at h2;obtain⟨rfl,rfl⟩:=h2
  refine⟨rfl,_,?_,.int _ _⟩
  cases hr<;>simp[Builtin.len_,jo,hx,hE.desc h1 hd,goInt]
 ·rename_i hd;cases hr
  simp only[wi,wk]at h2;obtain⟨rfl,rfl⟩:=h2
  exact⟨rfl,_,by simp[Builtin.len_,jo,hx,hE.desc h1 hd,goInt],.int _ _⟩
 ·rename_i r hd
  split at h2
  ·rename_i es rT
   simp only[wi,wk]at h2;obtain⟨rfl,rfl⟩:=h2
   cases hr with
   |map hm=>
    obtain⟨bm,a,b,_⟩:=hR.obj r _ _ hm rT
    exact⟨rfl,.int .i64 (bm.size:Int),by simp[Builtin.len_,jo,hx,hE.desc h1 hd,goInt,iu a (fun c e f h=>by cases h)],by rw[b];exact .int _ _⟩
  ·simp at h2
 ·simp at h2
theorem Ux(hE:EnvOk E)(hR:Rel B lo0 m H w){b:Builtin}{ts:Array TypeId}{args:List Value}{bF:Array Value}(ha:LRel m args bF.toList){v:Value}{H':Heap}(h:builtinV E H b ts.toList args=some (v,H'))(ty:TypeId)(cs:Array Bool):
  ∃v' w' m',(builtin b ts ty cs bF).run E.P w= .ok (.value v') w'∧Good B lo0 m H w m' H' w'∧VRel m' v v':=by
 unfold builtinV at h
 split at h
 ·
  rename_i t tl x l mS
  obtain⟨h1,v',h2,h3⟩:=VL hE hR mS ha (v:=v) (H':=H') (by simpa only[builtinV]using h) ty
  subst h1
  exact⟨v',w,m,by simp only[builtin,wB,h2,wu,wC],.refl hR,h3⟩
 ·
  rename_i x l _
  simp only[we,wi,wk]at h
  obtain⟨u,h1,rfl,rfl⟩:=h
  obtain⟨x',l',hl,hx,hr⟩:=ha.oz
  obtain⟨v',h2,h3⟩:=NA (w:=w) (P:=E.P) h1 hx hr
  exact⟨v',w,m,by simp only[builtin,Builtin.min_,hl,wB,h2,wu,wC],.refl hR,h3⟩
 ·
  rename_i x l _
  simp only[we,wi,wk]at h
  obtain⟨u,h1,rfl,rfl⟩:=h
  obtain⟨x',l',hl,hx,hr⟩:=ha.oz
  obtain⟨v',h2,h3⟩:=NB (w:=w) (P:=E.P) h1 hx hr
  exact⟨v',w,m,by simp only[builtin,Builtin.max_,hl,wB,h2,wu,wC],.refl hR,h3⟩
 ·
  rename_i t t' tl s x l mS
  obtain⟨s',x',hs,hx,rs,rx⟩:=GK ha
  have jo:ts[0]? =some t:=by rw[yk mS];rfl
  have GM:ts[1]? =some t':=by rw[yk mS];rfl
  simp only[we]at h
  obtain⟨i,h1,i',h2,h3⟩:=h
  split at h3
  ·rename_i e hd
   split at h3
   ·rename_i k kd n jk
    simp only[we]at h3
    obtain⟨j,h4,nl,h5,ie,h6,h7⟩:=h3
    obtain⟨h8,h9⟩:=cr h7
    simp only[wA,wbp,wbi]at h8
    simp only[CB,we,wi]at h5
    obtain⟨ie',tQ,z,hz,rfl⟩:=h5
    rw[h6]at tQ;cases tQ
    obtain⟨hp,kQ⟩:=hE.zero h6 hz
    obtain⟨info,hi,hb⟩:=hE.bytes h6
    obtain⟨rfl,tq⟩:=to?_eq h4
    cases rx
    have VM:IntKind.i64.wrap (j:Int)=(j:Int):=uo .i64 _ (by simp only[IntKind.min,IntKind.signed,IntKind.bits];simp only[wah];omega) (by simp only[IntKind.max,IntKind.signed,IntKind.bits];simp only[wah];omega)
    have di:∀ w':World,w'.heap=w.heap→(if j*ie.size=0 then pure #[]else do pure (Builtin.zeroCells (←zeroValue e).cells j):Sem (Array Value)).run E.P w'= .ok (dr (cj z) j).toArray w':=by
     intro w' _
     by_cases h0:j*ie.size=0
     ·rw[wF h0]
      have:dr (cj z) j=[]:=wby.1 (by rw[h8.1,h0])
      rw[this];rfl
     ·rw[wI h0]
      have GO:Builtin.zeroCells z.cells j=(dr (cj z) j).toArray:=by
       apply wcJ
       unfold Builtin.zeroCells
       rw[zo,jD]
      simp only[wB,kQ,wu,wC,GO]
    have vK:=Kq (zeros:=true) (sh:=Builtin.mayShare ie.size (match s' with| .slice _ l _=>l|_=>0) j (match s' with| .slice b _ _=>b|_=>none) (.int kd (j:Int))) hE hR h9 rs ((yh hp).repeat j) h6 h8.1 di
    obtain⟨base,dA,gd,oc,vK⟩:=vK
    obtain⟨v',w',m',aY,aV,bB⟩:=vK
    refine⟨v',w',m',?_,aV,bB⟩
    have GP:=VJ (w:=w) (P:=E.P) jo GM hs hx oc rfl (hE.desc h1 hd) (hE.desc h2 jk) (hE.oF h6) VM hi (by rw[hb];exact h8.2) ty
    subst oc
    simp only[builtin,wB,GP]
    rw[aY]
    rfl
   ·rename_i e' a n cap jk
    simp only[we,Env.size,wi]at h3
    obtain⟨z,⟨ie,h6,rfl⟩,nl,h5,h9⟩:=h3
    obtain⟨l',aY,aV⟩:=zm (size:=ie.size) (k:=n) hR h5 rx rfl (fun a e=>by cases e;simp)
    have cg:(Builtin.lenOf x').run E.P w= .ok n w:=by cases rx<;>rfl
    have vK:=Kq (zeros:=false) (app:=Builtin.firstCells ie.size n x') (sh:=Builtin.mayShare ie.size (match s' with| .slice _ l _=>l|_=>0) n (match s' with| .slice b _ _=>b|_=>none) x') hE hR h9 rs aY h6 (Km h5) (fun w' hw=>aV w' hw E.P)
    obtain⟨base,dA,gd,oc,vK⟩:=vK
    obtain⟨v',w',m',bB,bP,ki⟩:=vK
    refine⟨v',w',m',?_,bP,ki⟩
    have GP:=VI (w:=w) (P:=E.P) jo GM hs hx oc (hE.desc h1 hd) (hE.desc h2 jk) (hE.oF h6) cg ty
    subst oc
    simp only[builtin,wB,GP]
    rw[bB]
    rfl
   ·simp at h3
  ·simp at h3
 ·
  rename_i t tl d x l mS
  obtain⟨d',x',Dx,qH,rd,rx⟩:=GK ha
  have jo:ts[0]? =some t:=by rw[yk mS];rfl
  simp only[we]at h
  obtain⟨i,h1,h2⟩:=h
  split at h2
  ·rename_i e base dl cap a n uk hd
   simp only[we,Env.size,wi]at h2
   obtain⟨z,⟨ie,h6,rfl⟩,nl,h5,h9⟩:=h2
   obtain⟨l',aY,aV⟩:=zm (size:=ie.size) (k:=Nat.min n dl) hR h5 rx rfl (fun a e=>by cases e;simp)
   have cg:(Builtin.lenOf x').run E.P w= .ok n w:=by cases rx<;>rfl
   split at h9
   ·cases rd
    simp only[wi,wk]at h9
    obtain⟨rfl,rfl⟩:=h9
    exact⟨_,w,m,by simp only[builtin,Builtin.copy_,jo,Dx,qH,wB,hE.desc h1 hd,wu,cg,hE.oF h6,aV w rfl,wC,goInt],.refl hR,.int _ _⟩
   ·rename_i r o
    simp only[we,wi,wk]at h9
    obtain⟨H₁,bB,rfl,rfl⟩:=h9
    cases rd with
    |slice hm hc hex hi=>
     obtain⟨w',bP,ki⟩:=xJ (P:=E.P) hR hm bB aY
     exact⟨_,w',m,by simp only[builtin,Builtin.copy_,jo,Dx,qH,wB,hE.desc h1 hd,wu,cg,hE.oF h6,aV w rfl,bP,wC,goInt],ki,.int _ _⟩
    |empty a hm he=>
     have oU:nl=[]:=wby.1 (by rw[Km h5];simp)
     subst oU
     obtain⟨w',bP,ki⟩:=xJ (P:=E.P) hR hm bB aY
     have iq:=aY.mI
     subst iq
     simp only[storeCells,wC,Result.ok.injEq,wbT]at bP
     subst bP
     exact⟨_,w,m,by simp only[builtin,Builtin.copy_,jo,Dx,qH,wB,hE.desc h1 hd,wu,cg,hE.oF h6,aV w rfl,storeCells,wC,goInt],ki,.int _ _⟩
   ·simp at h9
  ·simp at h2
 ·
  rename_i t tl x k l mS
  obtain⟨x',k',qH,lL,rx,rk⟩:=GK ha
  have jo:ts[0]? =some t:=by rw[yk mS];rfl
  simp only[we,wi,wk]at h
  obtain⟨H₁,h1,rfl,rfl⟩:=h
  obtain⟨w',h2,h3⟩:=VH (ty:=ty) hE hR h1 rx rk jo qH lL
  exact⟨_,w',m,by simp only[builtin,wB,h2,wu,wC],h3,.tuple rfl (fun i v v' h=>by simp at h)⟩
 ·
  rename_i t tl x l mS
  obtain⟨x',qH,rx⟩:=NC ha
  have jo:ts[0]? =some t:=by rw[yk mS];rfl
  simp only[we]at h
  obtain⟨i,h1,h2⟩:=h
  split at h2
  ·rename_i hd
   cases rx
   simp only[wi,wk]at h2
   obtain⟨rfl,rfl⟩:=h2
   exact⟨_,w,m,by simp only[builtin,Builtin.clear_,jo,qH,wB,hE.desc h1 hd,wu,wC],.refl hR,.tuple rfl (fun i v v' h=>by simp at h)⟩
  ·rename_i e r o n cap hd
   simp only[we,wi,wk,CB]at h2
   obtain⟨nl,⟨ie,h6,z,hz,rfl⟩,H₁,bB,rfl,rfl⟩:=h2
   obtain⟨hp,kQ⟩:=hE.zero h6 hz
   have GO:Builtin.zeroCells z.cells n=(dr (cj z) n).toArray:=by
    apply wcJ
    unfold Builtin.zeroCells
    rw[zo,jD]
   cases rx with
   |slice hm hc hex hi=>
    rename_i c' p
    obtain⟨w',bP,ki⟩:=xJ (P:=E.P) hR hm bB ((yh hp).repeat n)
    by_cases h0:n=0
    ·subst h0
     simp only[dr,storeCells,wC,Result.ok.injEq,wbT]at bP
     subst bP
     exact⟨_,w,m,by simp only[builtin,Builtin.clear_,jo,qH,wB,hE.desc h1 hd,wu,wC],ki,.tuple rfl (fun i v v' h=>by simp at h)⟩
    ·obtain⟨n',rfl⟩:=Nat.exists_eq_succ_of_ne_zero h0
     exact⟨_,w',m,by simp only[builtin,Builtin.clear_,jo,qH,wB,hE.desc h1 hd,wu,kQ,GO,bP,wC],ki,.tuple rfl (fun i v v' h=>by simp at h)⟩
   |empty a hm he=>
    obtain⟨w',bP,ki⟩:=xJ (P:=E.P) hR hm bB ((yh hp).repeat 0)
    simp only[dr,storeCells,wC,Result.ok.injEq,wbT]at bP
    subst bP
    exact⟨_,w,m,by simp only[builtin,Builtin.clear_,jo,qH,wB,hE.desc h1 hd,wu,wC],ki,.tuple rfl (fun i v v' h=>by simp at h)⟩
  ·simp at h2
 ·simp at h
end
end Go.AM
