/-
  Walks over letters of the functions that the law reaches; written small by a program of mine.
-/
import Derived.Test.YtjgppeeplkidpaaGreatGYR
set_option linter.unusedVariables false
set_option linter.unusedSectionVars false
namespace Go.AM
attribute [local instance] fnMaps
open Go Go.Proofs
set_option maxRecDepth 100000
set_option maxHeartbeats 4000000
set_option linter.unusedSimpArgs false
theorem zg0(H:Heap)(an:H.lo≤H.next){s:St}{w t f zl:Value}(hS:eK H s w t f zl)(cd:nj s)(hl:s.words.length≤400)(jI:s.table.length≤100)(nt: -9223372036854775808≤s.top∧s.top≤9223372036854775807):af E (aK 69) [cz s w t f zl] H fun r H'=>
  ((dR s=0→∃ v,r= .tuple #[v,.int .i64 0]∧SLr (RInt .i64) 1 H' v (aS s))∧(dR s≠0→r= .tuple #[.slice none 0 0,.int .i64 4]))∧aq H H':=by
 have c1:=fun(X:Heap) (hx:X.lo≤X.next) (k:Ko H X)=>Qm X hx (hS.ko k) cd hl jI nt
 have cA:=fun(X:Heap) (hx:X.lo≤X.next) (k:Ko H X)=>Ps X hx (hS.ko k) cd.words (by omega) (by omega) nt (by have:=uC s;omega)
 obtain⟨⟨wa,wc,rfl,_⟩,_⟩:=hS.w
 obtain⟨⟨ta,tc,rfl,_⟩,_⟩:=hS.t
 obtain⟨⟨fa,fc,rfl,_⟩,_⟩:=hS.f
 obtain⟨⟨za,zc,rfl,_⟩,_⟩:=hS.sl
 clear hS
 unfold cz at c1 cA
 refine aV Tryz.f69 ?_
 simp only[Tryz.f69]
 unfold cz
 by_cases h0:dR s=0
 ·rw[h0]at c1⊢
  repeat'(first|((with_reducible show af _ _ _ _ _);refine ao H (c1 _ ah aj) ?_;intro H2 k2 l2 n2 g2 q2;try simp(disch:=omega)only[sm,sl]at l2 n2 g2 q2)|simp(disch:=omega)only[↓aa,ab,simprocAttr,sa, *])
  all_goals try omega
  refine af.mono (cA _ ah aj) ?_
  rintro rr Z ⟨⟨xA, -⟩,sZ⟩
  have kZ:Ko H Z:=Ko.call aj sZ
  have lZ:=sZ.lo;have nZ:=sZ.ag
  try simp(disch:=omega)only[sm,sl]at lZ nZ
  clear sZ cA c1
  repeat'(first|(apply ak<;>intro)|apply bw|refine cO (fun _=>?_) (fun _=>?_)|simp(disch:=omega)only[↓aa,ab,simprocAttr,sa, *])
  refine⟨?_,aA⟩
  first|exact⟨fun _=>⟨_,rfl,xA⟩,fun q=>absurd rfl q⟩|exact⟨_,rfl,xA⟩|exact⟨fun _=>⟨_,rfl,xA⟩,fun q=>q.elim⟩|exact⟨fun _=>⟨_,rfl,xA⟩,fun q=>(q rfl).elim⟩
 ·have hd:decide (dR s=0)=false:=wx h0
  repeat'(first|((with_reducible show af _ _ _ _ _);refine ao H (c1 _ ah aj) ?_;intro H2 k2 l2 n2 g2 q2;try simp(disch:=omega)only[sm,sl]at l2 n2 g2 q2)|simp(disch:=omega)only[↓aa,ab,simprocAttr,sa, *])
  all_goals try omega
  refine⟨?_,aA⟩
  first|exact⟨fun q=>absurd q h0,fun _=>rfl⟩|exact⟨fun q=>q.elim,fun _=>trivial⟩
end Go.AM
