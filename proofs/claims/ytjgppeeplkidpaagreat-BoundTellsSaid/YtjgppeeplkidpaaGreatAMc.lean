/-
  Walks over letters of the functions that the law reaches; written small by a program of mine.
-/
import Derived.Test.YtjgppeeplkidpaaGreatAMb
import Derived.LoopNIn
import Derived.TacticsIn
import Derived.Maps.RangeRun
import Derived.OpenShut
import Derived.ProofKit
import Derived.Carry
set_option linter.unusedSimpArgs false
set_option linter.unusedVariables false
set_option linter.unusedSectionVars false
namespace Go.AM
section
theorem U5{es:Array MapEntry}{seen:Array Nat}(h:(leftOf es seen).size=0){e:MapEntry}(he:e∈es.toList):e.born∈seen.toList:=by
 cases hc:seen.contains e.born with
 |true=>exact Array.mem_toList_iff.2 (by simpa using hc)
 |false=>
  have:e∈leftOf es seen:=Array.mem_filter.2 ⟨Array.mem_toList_iff.1 he,by rw[hc];rfl⟩
  have:=Array.size_pos_of_mem this
  omega
theorem VRel.U6{m m':Match}{v v':Value}(h:plain1 v=true)(hv:VRel m v v'):VRel m' v v':=by
 cases hv<;>first|(simp[plain1]at h;done)|constructor
variable[Maps]{B lo0:Nat}{m:Match}{H:Heap}{w:World}{E:Env}
end
section
variable{B lo0:Nat}{m:Match}{w:World}{P:Program}
theorem ML:∀ {a b:List Nat},eqNats a b=true→a=b
 |[],[],_=>rfl
 |x::a,y::b,h=>by
  simp only[eqNats,wA,wbp]at h
  rw[h.1,ML h.2]
 |[],_::_,h=>by simp[eqNats]at h
 |_::_,[],h=>by simp[eqNats]at h
theorem mT.back{m m':Match}(h:m.le m'):∀ {rs:List Nat} {ds CH:List Deferred},mT m rs ds→mT m' rs CH→mT m rs CH
 |[],[],[],_,_=>trivial
 |_::_,_::_,_::_,⟨⟨p,h1,_⟩,h3⟩,⟨⟨q,h4,h5⟩,h6⟩=>by
  have:=h _ _ h1
  rw[h4]at this
  cases this
  exact⟨⟨p,h1,h5⟩,h3.back h h6⟩
end
section
variable[Maps]{B lo0:Nat}{m:Match}{H:Heap}{w:World}{E:Env}
theorem Gp{v:Value}{t:Tmp}:∀ {l:List Tmp} {T:Tr Value},(dropAll l T).get t=some v→t∉l∧T.get t=some v
 |[],T,h=>⟨by simp,h⟩
 |x::l,T,h=>by
  obtain⟨h1,h2⟩:=Gp (l:=l) h
  obtain⟨h3,h4⟩:=Tr.jm h2
  exact⟨by simp[h1,h3],h4⟩
theorem Rel.hold(hR:Rel B lo0 m H w){H':Heap}{w':World}(bh:w.heap.size≤w'.heap.size)(hq:∀ b,b<B→w'.heap[b]? =w.heap[b]?)(hb:∀ r p o,m r=some p→H'.objs.get r=some o→w'.heap[p.ax]? =w.heap[p.ax]?)
  (oK:∀ r o,H'.objs.get r=some o→H.objs.get r=some o) (hg:H'.grps=H.grps) (hn:H'.next=H.next) (hl:lo0≤H'.lo) (ia:H'.lo≤H.next):Rel B lo0 m H' w' where
 base:=wK hR.base bh
 fJ:=hR.xZ hq
 lo:=hl
 ag:=by rw[hn];exact ia
 dom r p h:=by obtain⟨a,b,c,d⟩:=hR.dom r p h;exact⟨by rw[hn];exact a,wq b bh,c,d⟩
 obj r p o h ho:=(hR.obj r p o h (oK r o ho)).mono m.le_refl (hb r p o h ho)
 sep r r' p p' o o' a9 aj h h' ho bG he:=hR.sep r r' p p' o o' a9 aj h h' (oK _ _ ho) (oK _ _ bG) he
 dF r r' p p' c c' g z z' h h' ho bG:=hR.dF r r' p p' c c' g z z' h h' (oK _ _ ho) (oK _ _ bG)
 aS r p c g z h ho l Ag:=hR.aS r p c g z h (oK _ _ ho) l (by rw[←hg];exact Ag)
 ends r r' p p' c c' g z z' t h h' ho bG he:=hR.ends r r' p p' c c' g z z' t h h' (oK _ _ ho) (oK _ _ bG) he
 bH r p c g z t h ho:=by rw[hn];exact hR.bH r p c g z t h (oK _ _ ho)
theorem MM(hE:EnvOk E)(hO:OrcOk E){run:Code→Fr→Heap→Option (Ex×Fr×Heap)}(bE:oA E run){it:Operand}{v v':Value}{w₁:World}:∀ (c:Code),headNext c=some it→
  ∀(fr:Fr) (H:Heap) (ex:Ex) (bq:Fr) (H':Heap) (m:Match) (a:Act) (w:World) (ro:Option Nat),runHead E run v c fr H=some (ex,bq,H')→(∀ty,(Instr.next (a.eval it) false ty).run E.P w= .ok v' w₁)→Rel B lo0 m H w₁→VRel m v v'→gG m fr a ro→
  c.wpIn (fj ro) 0 E.P (fU B lo0 m H w₁ c a ro ex bq H') a w:=by
 intro c
 induction c with
 |seq x y Gq MN=>
  intro hi fr H ex bq H' m a w ro h hn hR hv hf
  simp only[runHead,we]at h
  obtain⟨⟨cT,eo,H₁⟩,h1,h2⟩:=h
  refine wpIn_seq (waJ (Gq hi fr H _ _ _ m a w ro h1 hn hR hv hf) fun e a₁ w₂ ⟨he,m₁,hg,fH,ht⟩=>?_)
  subst he
  by_cases hex:cT= .normal
  ·subst hex
   refine waJ (bE y eo H₁ _ _ _ h2 B lo0 m₁ a₁ w₂ ro hg.rel fH) fun e a' w' ⟨h5,m',h6,h7,h8⟩=>?_
   exact⟨h5,m',hg.trans h6,h7,fun t h'=>(h8 t fun h=>h' (by simp[writesOf,h])).trans (ht t fun h=>h' (by simp[writesOf,h]))⟩
  ·have h3:cT=ex∧eo=bq∧H₁=H':=by cases cT<;>simp_all
   obtain⟨rfl,rfl,rfl⟩:=h3
   have:fU B lo0 m H w₁ (.seq x y) a ro cT eo H₁ cT.to a₁ w₂:=⟨rfl,m₁,hg,fH,fun t h'=>ht t fun h=>h' (by simp[writesOf,h])⟩
   cases cT with
   |normal=>exact absurd rfl hex
   |_=>exact this
 |region id ops rL=>
  intro hi fr H ex bq H' m a w ro h hn hR hv hf
  cases rL with
  |true=>simp[headNext]at hi
  |false=>
   simp only[headNext]at hi
   simp only[runHead]at h
   cases hl:ops.toList with
   |nil=>rw[hl]at h;simp at h
   |cons o rest=>
    rw[hl]at h hi
    simp only[we,wi,wk]at h
    obtain⟨T,h1,⟨T',H₁⟩,h2,rfl,rfl,rfl⟩:=h
    have ho:ops[0]? =some o:=by rw[←wao,hl];rfl
    have bW:o.op= .next it false∧o.guard=none:=by
     simp only at hi
     split at hi
     ·rename_i rH h5 h6
      simp only[wi]at hi
      subst hi
      exact⟨h5,h6⟩
     ·simp at hi
    apply wpIn_region
    have bh:ops.size=rest.length+1:=by rw[←waF,hl];rfl
    rw[wcL,bh,List.range'_succ]
    have hw:Region.wanted o (yielded ops a.tmps)=true:=by simp[Region.wanted,bW.2]
    simp only[wpOpsIn,ho,hw,wah]
    refine⟨xX,?_⟩
    rw[Oper.semAt_eq _ _ _ (fun c hc=>by rw[bW.1]at hc;cases hc)]
    have gF:(execOp a.eval o).run E.P w= .ok (.value v') w₁:=by
     simp only[execOp,bW.1,wB,hn,wu,wC]
    rw[gF,Oper.uponIn_value]
    obtain⟨p1,p2,p3,p4⟩:=Cu (a:=a) h1 hf.tmps hf.size hv
    refine CZ hE (Fl hE hO bE) rest (0+1) (fun j=>by rw[←wao,hl,show 0+1+j=j+1 by omega];simp) T H T' H₁ _ w₁ m (by rw[hl];exact h2) hR p1 p2 fun a' w' m' hg q1 q2 q3 q4=>?_
    refine⟨rfl,m',hg,⟨q1,q2,by rw[q3,p3];exact hf.marks.mono hg.le,hf.round⟩,fun t ht=>?_⟩
    have cn:∀ o'∈ops.toList,o'.dst≠some t:=fun o' bG hd=>ht (by
     simp only[writesOf,wcz]
     exact⟨o',bG,hd⟩)
    rw[hl]at cn
    exact(q4 t fun o' bG=>cn o' (wM _ bG)).trans (p4 t (cn o (wW ..)))
 |_=>intro hi;simp[headNext]at hi
theorem Rel.other(hR:Rel B lo0 m H w){r:Nat}{p:dV}{o o':AObj}(hm:m r=some p)(hr:lo0≤r)(ho:H.objs.get r=some o)(fK:∀ c g t,o≠ .row c g t)(uc:∀ c g t,o'≠ .row c g t){H':Heap}{w':World}
  (bh:w.heap.size≤w'.heap.size) (hb:∀ b,b<w.heap.size→b≠p.ax→w'.heap[b]? =w.heap[b]?) (dn:iZ (decide (lo0≤r)) m p w' o') (iK:∀ j x,H'.objs.get j=some x→(j=r∧x=o')∨(j≠r∧H.objs.get j=some x))
  (hg:H'.grps=H.grps) (hn:H'.next=H.next) (hl:lo0≤H'.lo) (ia:H'.lo≤H.next):Rel B lo0 m H' w' where
 base:=wK hR.base bh
 fJ:=hR.xZ fun b hlt=>hb b (wq hlt hR.base) fun e=>by have:=(hR.dom r p hm).2.2.1 hr;omega
 lo:=hl
 ag:=by rw[hn];exact ia
 dom j q h:=by obtain⟨a,b,c,d⟩:=hR.dom j q h;exact⟨by rw[hn];exact a,wq b bh,c,d⟩
 obj j q x h hx:=by
  rcases iK j x hx with⟨rfl,rfl⟩|⟨hj,hx⟩
  ·rw[hm]at h;cases h;exact dn
  ·refine(hR.obj j q x h hx).mono m.le_refl (hb _ (hR.dom j q h).2.1 fun hU=>?_)
   have:=hR.sep r j p q o x (wbl hj) hr hm h ho hx hU.symm
   cases o<;>first|(exact absurd rfl (fK _ _ _))|simp[Mates]at this
 sep j j' q q' x x' a9 mU h h' hx cI he:=by
  rcases iK j x hx with⟨rfl,rfl⟩|⟨hj,hx⟩<;>rcases iK j' x' cI with⟨rfl,rfl⟩|⟨ud,cI⟩
  ·exact absurd rfl a9
  ·have:=hR.sep j j' q q' o x' a9 hr h h' ho cI he
   cases o<;>first|(exact absurd rfl (fK _ _ _))|simp[Mates]at this
  ·have:=hR.sep j' j q' q o x (wbl a9) hr h' h ho hx he.symm
   cases o<;>first|(exact absurd rfl (fK _ _ _))|simp[Mates]at this
  ·exact hR.sep j j' q q' x x' a9 mU h h' hx cI he
 dF j j' q q' c c' g z z' h h' hx cI:=by
  rcases iK j _ hx with⟨_,h1⟩|⟨_,hx⟩
  ·exact absurd h1.symm (uc _ _ _)
  ·rcases iK j' _ cI with⟨_,h1⟩|⟨_,cI⟩
   ·exact absurd h1.symm (uc _ _ _)
   ·exact hR.dF j j' q q' c c' g z z' h h' hx cI
 aS j q c g z h hx l Ag:=by
  rcases iK j _ hx with⟨_,h1⟩|⟨_,hx⟩
  ·exact absurd h1.symm (uc _ _ _)
  ·exact hR.aS j q c g z h hx l (by rw[←hg];exact Ag)
 ends j j' q q' c c' g z z' t h h' hx cI he:=by
  rcases iK j _ hx with⟨_,h1⟩|⟨_,hx⟩
  ·exact absurd h1.symm (uc _ _ _)
  ·rcases iK j' _ cI with⟨_,h1⟩|⟨_,cI⟩
   ·exact absurd h1.symm (uc _ _ _)
   ·exact hR.ends j j' q q' c c' g z z' t h h' hx cI he
 bH j q c g z t h hx:=by
  rcases iK j _ hx with⟨_,h1⟩|⟨_,hx⟩
  ·exact absurd h1.symm (uc _ _ _)
  ·rw[hn];exact hR.bH j q c g z t h hx
theorem C0{T:Tr Value}{p:Tmp×Value}:∀ {l:List Tmp},p∈rK T l→T.get p.1=some p.2∧plain1 p.2=true∧p.1∈l
 |[],h=>by simp[rK]at h
 |d::l,h=>by
  unfold rK at h
  split at h
  ·rename_i v hv
   cases hp:plain1 v with
   |true=>
    rw[hp,wai,wad]at h
    rcases h with rfl|h
    ·exact⟨hv,hp,wW ..⟩
    ·obtain⟨h1,h2,h3⟩:=C0 h;exact⟨h1,h2,wM _ h3⟩
   |false=>
    rw[hp,wS]at h
    obtain⟨h1,h2,h3⟩:=C0 h;exact⟨h1,h2,wM _ h3⟩
  ·obtain⟨h1,h2,h3⟩:=C0 h;exact⟨h1,h2,wM _ h3⟩
theorem Ah{T:Tr Value}{p:Tmp×Value}:∀ {l:List (Tmp×Value)},p∈alsoIn T l→T.get p.1=some p.2∧p∈l
 |[],h=>by simp[alsoIn]at h
 |q::l,h=>by
  unfold alsoIn at h
  split at h
  ·rename_i v hv
   cases hp:same1 q.2 v with
   |true=>
    rw[hp,wai,wad]at h
    rcases h with rfl|h
    ·exact⟨by rw[hv,Gs hp],wW ..⟩
    ·obtain⟨h1,h2⟩:=Ah h;exact⟨h1,wM _ h2⟩
   |false=>
    rw[hp,wS]at h
    obtain⟨h1,h2⟩:=Ah h;exact⟨h1,wM _ h2⟩
  ·obtain⟨h1,h2⟩:=Ah h;exact⟨h1,wM _ h2⟩
theorem MO{t:Tmp}{v:Value}:∀ {l:List (Tmp×Value)} {T:Tr Value},(uZ l T).get t=some v→(t,v)∈l∨T.get t=some v
 |[],T,h=> .inr h
 |p::l,T,h=>by
  rcases MO (l:=l) h with h|h
  ·exact .inl (wM _ h)
  ·rcases Tr.dq h with⟨h1,h2⟩|⟨_,h2⟩
   ·exact .inl (by rw[h1,h2];exact wW ..)
   ·exact .inr h2
def Da(E:Env)(run:Code→Fr→Heap→Option (Ex×Fr×Heap))(c:Code)(fr:Fr)(H:Heap)(r:Nat)(mm:Option Nat)(n i:Nat)(e:Value×Value)(ex:Ex)(bq:Fr):Prop:=
 ∃H',runHead E run (.tuple #[.bool true,e.1,e.2]) c fr {objs:=(H.setObj r (.iter mm n (.told i))).objs,grps:=H.grps,next:=H.next,lo:=H.next}=some (ex,bq,H')∧bq.marks=fr.marks∧bq.size=fr.size
theorem Ai{run:Code→Fr→Heap→Option (Ex×Fr×Heap)}{c:Code}{fr:Fr}{r:Nat}{mm:Option Nat}{n:Nat}:∀ {es:List (Value×Value)} {i:Nat} {acc o:Option (List (Tmp×Value))},roundsV E run c fr H r mm n es i acc=some o→
  (∀l,acc=some l→∀ p∈l,plain1 p.2=true∧p.1∈writesOf c)→
  (∀l,acc=some l→∃ vs,o=some vs∧∀ p∈vs,p∈l)∧(∀vs,o=some vs→∀ p∈vs,plain1 p.2=true∧p.1∈writesOf c)∧
  (∀k e,es[k]? =some e→∃ ex bq,Da E run c fr H r mm n (i+k) e ex bq∧(ex= .normal∨ex= .ret∧∃ vs,o=some vs∧∀ p∈vs,bq.T.get p.1=some p.2))∧
  (acc=none→∀ vs,o=some vs→∃ k e bq,es[k]? =some e∧Da E run c fr H r mm n (i+k) e .ret bq)
 |[],i,acc,o,h,ha=>by
  simp only[roundsV,wi]at h
  subst h
  exact⟨fun l hl=>⟨l,hl,fun p hp=>hp⟩,ha,fun k e he=>by simp at he,fun h1 vs h2=>by rw[h1]at h2;cases h2⟩
 |x::es,i,acc,o,h,ha=>by
  simp only[roundsV]at h
  split at h
  ·rename_i ex bq H' bE
   obtain⟨k0,h⟩:=cr h
   simp only[wA]at k0
   have hx:Da E run c fr H r mm n i x ex bq:=⟨H',bE,ML k0.1,by simpa using k0.2⟩
   split at h
   ·obtain⟨h1,h2,h3,h4⟩:=Ai h ha
    refine⟨h1,h2,fun k e he=>?_,fun hn vs hv=>?_⟩
    ·cases k with
     |zero=>simp only[wQ,wi]at he;subst he;exact⟨_,_,hx,.inl rfl⟩
     |succ k=>rw[show i+(k+1)=i+1+k by omega];exact h3 k e (by simpa using he)
    ·obtain⟨k,e,oa,h5,h6⟩:=h4 hn vs hv
     exact⟨k+1,e,oa,by simpa using h5,by rw[show i+(k+1)=i+1+k by omega];exact h6⟩
   ·have hT:∀ l:List (Tmp×Value),some (accRet bq.T (writesOf c) acc)=some l→∀ p∈l,bq.T.get p.1=some p.2∧plain1 p.2=true∧p.1∈writesOf c:=by
     intro l hl p hp
     simp only[wi]at hl
     subst hl
     cases acc with
     |none=>exact C0 hp
     |some l=>obtain⟨h1,h2⟩:=Ah hp;exact⟨h1,ha l rfl p h2⟩
    obtain⟨h1,h2,h3,h4⟩:=Ai h fun l hl p hp=>(hT l hl p hp).2
    obtain⟨vs,mV,oK⟩:=h1 _ rfl
    refine⟨fun l hl=>⟨vs,mV,fun p hp=>?_⟩,h2,fun k e he=>?_,fun hn vs hv=>⟨0,x,bq,rfl,hx⟩⟩
    ·have:=oK p hp
     rw[hl]at this
     exact(Ah this).2
    ·cases k with
     |zero=>
      simp only[wQ,wi]at he
      subst he
      exact⟨_,_,hx,.inr ⟨rfl,vs,mV,fun p hp=>(hT _ rfl p (oK p hp)).1⟩⟩
     |succ k=>rw[show i+(k+1)=i+1+k by omega];exact h3 k e (by simpa using he)
   ·simp at h
  ·simp at h
theorem gG.dropped{fr:Fr}{a a':Act}{ro:Option Nat}{c:Code}(hf:gG m fr a ro)(ht:∀ t,t∉writesOf c→a'.tmps[t]? =a.tmps[t]?)(hs:a'.tmps.size=fr.size)(hm:mT m fr.marks a'.defers):
  gG m {T:=dropAll (writesOf c) fr.T,size:=fr.size,marks:=fr.marks,round:=fr.round} a' ro:=by
 refine⟨fun t v hv=>?_,hs,hm,hf.round⟩
 obtain⟨h1,h2⟩:=Gp hv
 obtain⟨v',h3,h4⟩:=hf.tmps t v h2
 exact⟨v',(ht t h1).trans h3,h4⟩
theorem U7(hE:EnvOk E)(hO:OrcOk E){run:Code→Fr→Heap→Option (Ex×Fr×Heap)}(bE:oA E run){c:Code}{it:Operand}{fr bq:Fr}{ex:Ex}{H':Heap}{a:Act}{ro:Option Nat}(hR:Rel B lo0 m H w)(hf:gG m fr a ro)
  (hi:headNext c=some it) (h:mapLoop E run c it fr H=some (ex,bq,H')):(Code.loop c).wpIn (fj ro) 0 E.P (fU B lo0 m H w (.loop c) a ro ex bq H') a w:=by
 unfold mapLoop at h
 simp only[Tr.force_eq,we]at h
 obtain⟨MP,h1,h⟩:=h
 split at h
 ·rename_i r
  split at h
  ·rename_i mm n dn
   simp only[we]at h
   obtain⟨es,h2,h⟩:=h
   obtain⟨k,h⟩:=cM h
   simp only[we]at h
   obtain⟨o,Gt,h⟩:=h
   simp only[wbM,waM,wbi,wbp]at k
   obtain⟨cg,aj⟩:=k
   obtain⟨_,MQ,Gu,Aj⟩:=Ai Gt fun l hl=>by cases hl
   have U8:ex≠ .normal:=by
    intro hx
    subst hx
    cases o with
    |some vs=>simp at h
    |none=>
     simp only[we]at h
     obtain⟨⟨cT,eo,H₁⟩,_,h3⟩:=h
     cases cT<;>simp at h3
   have xY:lo0≤r:=wK hR.lo aj
   have mP:∀ a':Act,gG m {T:=dropAll (writesOf c) fr.T,size:=fr.size,marks:=fr.marks,round:=fr.round} a' ro→∃ p,m r=some p∧a'.eval it= .pointer (some ⟨p.ax,p.base+0,none⟩):=fun a' dZ=>by
    have:=cO dZ.tmps h1
    generalize a'.eval it=z at this
    cases this with
    |ptr hm=>exact⟨_,hm,rfl⟩
   have je:=hf.dropped (a':=a) (c:=c) (fun _ _=>rfl) hf.size hf.marks
   obtain⟨p,hm,_⟩:=mP a je
   have U9:IterRel m p mm n .start w:=hR.obj r p _ hm dn
   obtain⟨Gv,iH,zh2,Db,kW,rfl⟩:=U9
   have zh3:=(hR.dom r p hm).2.1
   let I:Act→World→Prop:=fun a' w'=>(∃seen,w'.heap[p.ax]? =some (.mapIter iH n seen n))∧(∀b,b<w.heap.size→b≠p.ax→w'.heap[b]? =w.heap[b]?)∧w.heap.size≤w'.heap.size∧(w'.os=w.os∧w'.output=w.output)∧
    gG m {T:=dropAll (writesOf c) fr.T,size:=fr.size,marks:=fr.marks,round:=fr.round} a' ro∧(∀t,t∉writesOf c→a'.tmps[t]? =a.tmps[t]?)∧
    ∀seen Gw,w'.heap[p.ax]? =some (.mapIter iH n seen Gw)→∀ i∈seen.toList,∀e,es[i]? =some e→∃ oa,Da E run c {T:=dropAll (writesOf c) fr.T,size:=fr.size,marks:=fr.marks,round:=fr.round} H r mm n i e .normal oa
   have MR:∀ w',(∀b,b<w.heap.size→b≠p.ax→w'.heap[b]? =w.heap[b]?)→w.heap.size≤w'.heap.size→Rel B lo0 m {objs:=H.objs.del r,grps:=H.grps,next:=H.next,lo:=H.lo} w':=fun w' hb hs=>by
    refine hR.hold hs (fun b hlt=>hb b (wq hlt hR.base) fun e=>by have:=(hR.dom r p hm).2.2.1 xY;omega) (fun j q x hj hx=>hb _ (hR.dom j q hj).2.1 fun hU=>?_) (fun j x hx=>(Tr.jm hx).2) rfl rfl hR.lo hR.ag
    have cI:=Tr.jm hx
    have:=hR.sep r j p q _ x (wbl cI.1) xY hm hj dn cI.2 hU.symm
    exact this
   have vD:o=none→∀ a' w',I a' w'→(∀ty,(Instr.next (a'.eval it) false ty).run E.P w'= .ok (.tuple #[.bool false]) w')→c.wpIn (fj ro) 0 E.P (Exit.then (fun _ _=>False) (fU B lo0 m H w (.loop c) a ro ex bq H')) a' w':=by
    rintro rfl a' w' ⟨_,hb,hs,fu,dZ,ht,_⟩ hn
    simp only[we]at h
    obtain⟨⟨cT,eo,H₁⟩,jF,h3⟩:=h
    have hex:cT=ex∧eo=bq∧H₁=H':=by cases cT<;>simp_all
    obtain⟨rfl,rfl,rfl⟩:=hex
    have MS:=MR w' hb hs
    have g0:Good B lo0 m H w m {objs:=H.objs.del r,grps:=H.grps,next:=H.next,lo:=H.lo} w':=⟨m.le_refl,MS,fun _ _ h=> .inl h,fun r p h h'=>(by rw[h]at h';cases h'),wy _,rfl,
     fun b rR a9=>hb b rR fun hU=>a9 r p hm aj hU.symm,hs,fun j x _ hx=>(Tr.jm hx).2,fu⟩
    refine waJ (MM hE hO bE c hi _ _ _ _ _ m a' w' ro jF hn MS (.tuple rfl (fun i v v' h h'=>?_)) dZ) fun e a₁ w₁ ⟨he,m₁,hg,fH,ue⟩=>?_
    ·have h':(#[Value.bool false]:Array Value).toList[i]? =some v':=h'
     rw[h]at h';cases h'
     cases i with
     |zero=>simp at h;subst h;exact .bool false
     |succ i=>simp at h
    ·have FZ:fU B lo0 m H w (.loop c) a ro cT eo H₁ e a₁ w₁:=⟨he,m₁,g0.trans hg,fH,fun t h'=>(ue t h').trans (ht t h')⟩
     subst he
     cases cT with
     |normal=>exact absurd rfl U8
     |_=>exact FZ
   cases Dc:mm with
   |none=>
    rw[Dc]at kW
    simp only at kW
    subst kW
    have MT:es=[]:=by rw[Dc]at h2;simpa[entriesOf]using h2.symm
    have rS:o=none:=by rw[MT]at Gt;simpa[roundsV]using Gt.symm
    refine wpIn_loop_once (vD rS a w ⟨⟨#[],Db⟩,fun _ _ _=>rfl,wy _,⟨rfl,rfl⟩,je,fun _ _=>rfl,fun _ _ _ i _ e he=>by rw[MT]at he;simp at he⟩ fun ty=>?_)
    obtain⟨p',eE,he⟩:=mP a je
    rw[hm]at eE;cases eE
    rw[he,Gv]
    simp only[Instr.next,wB,iu Db (fun c e f h=>by cases h),wu,wC]
   |some rm=>
    rw[Dc]at kW h2
    obtain⟨q,hq,rfl⟩:=kW
    have pk:H.objs.get rm=some (.map es):=by
     simp only[entriesOf]at h2
     split at h2
     ·rename_i bm rT;simp only[wi]at h2;subst h2;exact rT
     ·simp at h2
    obtain⟨bm,m1,m2,m3⟩:=hR.obj rm q _ hq pk
    have Va:=(hR.dom rm q hq).2.1
    have Vb:q.ax≠p.ax:=fun hU=>by
     have a9:r≠rm:=fun h=>by subst h;rw[dn]at pk;cases pk
     exact hR.sep r rm p q _ _ a9 xY hm hq dn pk hU.symm
    have MU:∀ (i:Nat) (e:MapEntry),bm[i]? =some e→e.born=i∧i<n:=fun i e he=>by
     have hlt:i<bm.size:=(w0.1 he).1
     have lU:i<es.length:=by omega
     obtain⟨e',h4,_,_,h5⟩:=m3 i es[i].1 es[i].2 (wj lU)
     rw[he]at h4;cases h4
     exact⟨h5,by omega⟩
    have hold:∀ x∈bm.toList,x.born<n:=fun x hx=>by
     obtain⟨i,hi⟩:=wbx.1 hx
     obtain⟨h4,h5⟩:=MU i x (by rw[←wao];exact hi)
     omega
    have Vc:bm.size=n:=by omega
    let μ:Act→World→Nat:=fun _ w'=>match w'.heap[p.ax]? with
     |some (.mapIter _ _ seen _)=>(leftOf bm seen).size
     |_=>0
    refine wpIn_loop I μ ⟨⟨#[],Db⟩,fun _ _ _=>rfl,wy _,⟨rfl,rfl⟩,je,fun _ _=>rfl,fun seen Gw hs i hi=>by rw[Db]at hs;cases hs;simp at hi⟩ fun a' w' hI=>?_
    obtain⟨⟨seen,kz⟩,hb,bh,fu,dZ,ht,Gx⟩:=hI
    obtain⟨p',eE,mH⟩:=mP a' dZ
    rw[hm]at eE;cases eE
    rw[Gv]at mH
    have F1:w'.heap[q.ax]? =some (.map bm n):=by rw[hb _ Va Vb,m1,Vc]
    rcases run_next_at (P:=E.P) w' 0 p.ax q.ax n n seen bm n kz F1 hold (wy _)with⟨h4,h5⟩|⟨e,h4,w1,h5,h6⟩
    ·have rS:o=none:=by
      cases ho:o with
      |none=>rfl
      |some vs=>
       obtain⟨k,e,oa,h6,H6,h7,_⟩:=Aj rfl vs ho
       rw[wau]at h7
       obtain⟨e',h8,_,_,h9⟩:=m3 k e.1 e.2 h6
       have cn:k∈seen.toList:=by
        have tF:e'∈bm.toList:=wbx.2 ⟨k,by rw[wao];exact h8⟩
        have:=U5 h4 tF
        rwa [h9]at this
       obtain⟨fr3,H3,aY,_⟩:=Gx seen n kz k cn e h6
       rw[h7]at aY
       cases aY
     refine waJ (vD rS a' w' ⟨⟨seen,kz⟩,hb,bh,fu,dZ,ht,Gx⟩ fun ty=>by rw[mH];exact h5) fun e a₁ w₁ hp=>?_
     cases e<;>first|exact hp|exact hp.elim
    ·obtain⟨tF,zh4⟩:=mem_left h4
     obtain⟨i,eh⟩:=wbx.1 tF
     have eh:bm[i]? =some e:=by rw[←wao];exact eh
     obtain⟨gV,gu⟩:=MU i e eh
     have rT:es[i]? =some es[i]:=wj (by omega)
     obtain⟨exr,tA,Gy,pq⟩:=Gu i _ rT
     rw[wau]at Gy
     have Vd:=Gy
     obtain⟨H₂,km,dW,rU⟩:=Gy
     obtain⟨oB,h7,Ve,GA,_⟩:=m3 i es[i].1 es[i].2 rT
     rw[eh]at h7;cases h7
     have vE:w1.heap=w'.heap∧w1.os=w'.os∧w1.output=w'.output:=by rcases h5 with rfl|rfl<;>exact⟨rfl,rfl,rfl⟩
     have uf:∀ b,b≠p.ax→(ChangeMaps.setBlock w1 p.ax (.mapIter (some q.ax) n (seen.push e.born) n)).heap[b]? =w'.heap[b]? :=fun b hU=>by
      show(w1.heap.setIfInBounds p.ax _)[b]? =_
      rw[wa8 (wbl hU),vE.1]
     have MV:(ChangeMaps.setBlock w1 p.ax (.mapIter (some q.ax) n (seen.push e.born) n)).heap[p.ax]? =some (.mapIter (some q.ax) n (seen.push e.born) n):=by
      show(w1.heap.setIfInBounds p.ax _)[p.ax]? =_
      rw[wb7 (by rw[vE.1];omega)]
     have Dd:(ChangeMaps.setBlock w1 p.ax (.mapIter (some q.ax) n (seen.push e.born) n)).heap.size=w'.heap.size:=by
      show(w1.heap.setIfInBounds p.ax _).size=_
      rw[Array.size_setIfInBounds,vE.1]
     have Vf:Rel B lo0 m {objs:=(H.setObj r (.iter mm n (.told i))).objs,grps:=H.grps,next:=H.next,lo:=H.next} (ChangeMaps.setBlock w1 p.ax (.mapIter (some q.ax) n (seen.push e.born) n)):=by
      refine hR.other hm xY dn (fun c g t h=>by cases h) (o':= .iter mm n (.told i)) (fun c g t h=>by cases h) (by rw[Dd];exact bh) (fun b gV gu=>(uf b gu).trans (hb b gV gu)) ?_ (fun j x hx=>?_) rfl rfl (wK hR.lo hR.ag) (wy _)
      ·refine⟨Gv,some q.ax,seen.push e.born,MV,?_,?_⟩
       ·rw[Dc];exact⟨q,hq,rfl⟩
       ·rw[Array.back?_push,gV]
      ·simp only[Heap.setObj,Tr.force_eq]at hx
       exact Tr.dq hx
     have Vg:VRel m (.tuple #[.bool true,es[i].1,es[i].2]) (.tuple #[.bool true,e.key,e.val]):=
      .uW (l:=[.bool true,es[i].1,es[i].2]) (l':=[.bool true,e.key,e.val]) (.cons (.bool true) (.cons Ve (.one GA)))
     refine waJ (MM hE hO bE c hi _ _ _ _ _ m a' w' ro km (fun ty=>by rw[mH];exact h6) Vf Vg dZ) fun ua a₁ w₁ ⟨ug,m₁,hg,fH,ue⟩=>?_
     subst ug
     have cQ:∀ b,b<w'.heap.size→w₁.heap[b]? =(ChangeMaps.setBlock w1 p.ax (.mapIter (some q.ax) n (seen.push e.born) n)).heap[b]? :=fun b ye=>hg.frame b (by rw[Dd];exact ye) fun j qq hj pn=>by
      have:=(hR.dom j qq hj).1
      have pn:H.next≤j:=pn
      omega
     have Ak:w₁.heap[p.ax]? =some (.mapIter (some q.ax) n (seen.push e.born) n):=(cQ _ (by omega)).trans MV
     rcases pq with rfl|⟨rfl,vs,rfl,mV⟩
     case inr=>
      simp only[wi,wk]at h
      obtain⟨rfl,rfl,rfl⟩:=h
      have rR:∀ b,b<w.heap.size→b≠p.ax→w₁.heap[b]? =w.heap[b]? :=fun b gV gu=>(cQ b (by omega)).trans ((uf b gu).trans (hb b gV gu))
      have mR:w.heap.size≤w₁.heap.size:=by
       have:=hg.size
       rw[Dd]at this
       omega
      have g0:Good B lo0 m H w m {objs:=H.objs.del r,grps:=H.grps,next:=H.next,lo:=H.lo} w₁:=⟨m.le_refl,MR w₁ rR mR,fun _ _ h=> .inl h,fun r p h h'=>(by rw[h]at h';cases h'),wy _,rfl,
       fun b gV a9=>rR b gV fun hU=>a9 r p hm aj hU.symm,mR,fun j x _ hx=>(Tr.jm hx).2,⟨hg.os.1.trans (vE.2.1.trans fu.1),hg.os.2.trans (vE.2.2.trans fu.2)⟩⟩
      refine⟨rfl,m,g0,⟨fun t v hv=>?_,?_,mT.back hg.le dZ.marks ?_,hf.round⟩,fun t h'=>(ue t h').trans (ht t h')⟩
      ·rcases MO hv with hv|hv
       ·obtain⟨v',h8,h9⟩:=fH.tmps t v (mV _ hv)
        exact⟨v',h8,h9.U6 (MQ vs rfl _ hv).1⟩
       ·obtain⟨h8,h9⟩:=Gp hv
        obtain⟨v',aY,aV⟩:=hf.tmps t v h9
        exact⟨v',(ue t h8).trans ((ht t h8).trans aY),aV⟩
      ·have:=fH.size
       rw[this,rU]
      ·have:=fH.marks
       rwa [dW]at this
     refine⟨⟨⟨seen.push e.born,Ak⟩,fun b gV gu=>(cQ b (by omega)).trans ((uf b gu).trans (hb b gV gu)),?_,?_,?_,fun t h'=>(ue t h').trans (ht t h'),fun zh5 Gw me j hj e2 ug=>?_⟩,?_⟩
     ·have:=hg.size
      rw[Dd]at this
      omega
     ·exact⟨hg.os.1.trans (vE.2.1.trans fu.1),hg.os.2.trans (vE.2.2.trans fu.2)⟩
     ·refine hf.dropped (fun t h'=>(ue t h').trans (ht t h')) ?_ (mT.back hg.le dZ.marks ?_)
      ·have:=fH.size
       rw[this,rU]
      ·have:=fH.marks
       rwa [dW]at this
     ·rw[Ak]at me
      cases me
      rw[Array.toList_push,waI,waG]at hj
      rcases hj with hj|rfl
      ·exact Gx seen n kz j hj e2 ug
      ·rw[gV]at ug
       rw[rT]at ug
       cases ug
       rw[gV]
       exact⟨tA,Vd⟩
     ·show(match w₁.heap[p.ax]? with|some (.mapIter _ _ seen _)=>(leftOf bm seen).size|_=>0)<(match w'.heap[p.ax]? with|some (.mapIter _ _ seen _)=>(leftOf bm seen).size|_=>0)
      rw[Ak,kz]
      exact left_shrinks bm seen e h4
  ·simp at h
 ·simp at h
end
section
variable[Maps]{B lo0:Nat}{m:Match}{H:Heap}{w:World}{E:Env}
def DD(E:Env)(run:Code→Fr→Heap→Option (Ex×Fr×Heap)):Prop:=∀ c fr H ex bq H',headNext c=none→run (.loop c) fr H=some (ex,bq,H')→∃ N,∀B lo0 m a w ro,Rel B lo0 m H w→gG m fr a ro→
 Code.roundsIn (fj ro) 0 E.P c (fU B lo0 m H w (.loop c) a ro ex bq H') N a w
end
section
variable{B lo0:Nat}{m:Match}{w:World}{P:Program}
theorem NN{F:Fence}{n:Nat}{P:Program}{c:Code}{Q Q':Exit→Act→World→Prop}(hq:∀ e a w,Q e a w→Q' e a w):∀ {N:Nat} {a:Act} {w:World},Code.roundsIn F n P c Q N a w→Code.roundsIn F n P c Q' N a w
 |0,_,_,h=>h.elim
 |N+1,a,w,h=>by
  rw[wcs]at h⊢
  refine waJ h fun e a' w' hp=>?_
  cases e with
  |normal=>exact NN hq hp
  |_=>exact hq _ _ _ hp
end
section
variable[Maps]{B lo0:Nat}{m:Match}{H:Heap}{w:World}{E:Env}
theorem fU.after{c c':Code}{a a₁:Act}{ro:Option Nat}{ex:Ex}{bq:Fr}{H' H₁:Heap}{m₁:Match}{w₁:World}(hg:Good B lo0 m H w m₁ H₁ w₁)(ha:∀ t,t∉writesOf c'→a₁.tmps[t]? =a.tmps[t]?)(hw:∀ t,t∉writesOf c'→t∉writesOf c)
  {e:Exit} {a':Act} {w':World} (h:fU B lo0 m₁ H₁ w₁ c a₁ ro ex bq H' e a' w'):fU B lo0 m H w c' a ro ex bq H' e a' w':=
 let⟨h1,m',h2,h3,h4⟩:=h
 ⟨h1,m',hg.trans h2,h3,fun t ht=>(h4 t (hw t ht)).trans (ha t ht)⟩
end
section
variable{B lo0:Nat}{m:Match}{w:World}{P:Program}
theorem GZ{ex:Ex}{e:Exit}{next:Act→World→Prop}{Q:Exit→Act→World→Prop}{a:Act}{w:World}(he:e=ex.to)(hn:ex= .normal→next a w)(hq:ex≠ .normal→Q ex.to a w):Exit.then next Q e a w:=by
 subst he
 cases ex with
 |normal=>exact hn rfl
 |ret=>exact hq (by simp)
 |exit id=>exact hq (by simp)
theorem VS{F:Fence}{n:Nat}{P:Program}{Q:Exit→Act→World→Prop}{a:Act}{w:World}{c:Code}(h:c.wpIn F n P Q a w)(hq:∀ l a w,¬Q (.goto l) a w):(Code.scope c).wpIn F n P Q a w:=by
 intro b k cs Dk hb hr
 have h0:(lone (b.atR a (.code (.scope c)::k)) cs w).fenced P F:=fenced_calm hb hr rfl
 have hs:step P (lone (b.atR a (.code (.scope c)::k)) cs w)= .next (lone (b.atR a (.code c:: .inScope c::k)) cs w):=step_lone_go (by simp[stepG,stepG.exec,Frame.atR])
 obtain⟨e,a₁,w₁,yo,tj⟩:=h b (.inScope c::k) cs Dk hb hr
 cases e with
 |normal=>exact⟨.normal,a₁,w₁,yo,.head h0 hs (StepsIn.trans tj (.one (fenced_calm hb hr rfl) (step_lone_go (by simp[stepG,stepG.exec,Frame.atR]))))⟩
 |exit G0=>
  have hx:exitTo G0 (.inScope c::k)=exitTo G0 k:=by simp[exitTo]
  exact⟨.exit G0,a₁,w₁,yo,fun k' hk=> .head h0 hs (tj.1 k' (by rw[hx];exact hk)),
    fun ct hk=>let⟨k₁,h1,h2⟩:=tj.2 ct (by rw[hx];exact hk);⟨k₁,h1,.head h0 hs h2⟩⟩
 |goto l=>exact absurd yo (hq l a₁ w₁)
 |ret=>exact⟨_,a₁,w₁,yo,.of_steps (.one h0 hs) tj⟩
 |panic ch=>exact⟨_,a₁,w₁,yo,.of_steps (.one h0 hs) tj⟩
 |outgrown=>exact⟨_,a₁,w₁,yo,.of_steps (.one h0 hs) tj⟩
end
section
variable[Maps]{B lo0:Nat}{m:Match}{H:Heap}{w:World}{E:Env}
theorem VT(hE:EnvOk E){run:Code→Fr→Heap→Option (Ex×Fr×Heap)}(bE:oA E run){g:Operand}{gv:Value}{ps:Array Tmp}{assign body:Code}{fr bq:Fr}{ex:Ex}{H':Heap}{a:Act}{ro:Option Nat}(hR:Rel B lo0 m H w)(hf:gG m fr a ro)
  (h0:fr.round=none) (h1:ev fr.T g=some gv) (h:rangeV E run gv ps.toList assign body fr H=some (ex,bq,H')):
  (Code.rangeFunc g ps assign body).wpIn (fj ro) 0 E.P (fU B lo0 m H w (.rangeFunc g ps assign body) a ro ex bq H') a w:=by
 obtain rfl:=hf.round h0
 have hg:=cO hf.tmps h1
 unfold rangeV at h
 split at h
 ·rename_i gf first captured
  simp only[we]at h
  obtain⟨⟨rv,H₃⟩,h2,h3⟩:=h
  have g1:Good B lo0 m H w (eD m H.next ⟨w.heap.size,0,0,true,0⟩) (H.add .defers) (w.alloc (.deferred (some []))):=
   Good.added hR (.deferred (some [])) .defers ⟨w.heap.size,0,0,true,0⟩ rfl rfl ⟨rfl,rfl⟩ (by show(w.heap.push _)[w.heap.size]? =_;simp) (fun c g t h=>by cases h)
  have bh:(w.alloc (.deferred (some []))).heap.size=w.heap.size+1:=by show(w.heap.push _).size=_;simp
  have jq:(H.add .defers).next=H.next+1:=ja H _
  have Ft:∀ O,((w.alloc (.deferred (some []))).alloc O).heap[w.heap.size+1]? =some O:=fun O=>by
   show((w.alloc (.deferred (some []))).heap.push O)[w.heap.size+1]? =_
   rw[←bh]
   exact Array.getElem?_push_size ..
  let L:FuncId→Loop:=fun fn=>{state:= .ready,pending:=none,fn,tmps:=a.tmps,params:=ps,assign,body,defers:=w.heap.size}
  have g2:∀ fn,Good B lo0 (eD m H.next ⟨w.heap.size,0,0,true,0⟩) (H.add .defers) (w.alloc (.deferred (some []))) (eD (eD m H.next ⟨w.heap.size,0,0,true,0⟩) (H.add .defers).next ⟨w.heap.size+1,0,0,true,0⟩)
    ((H.add .defers).add (.loop .ready none fr.size fr.T ps.toList assign body H.next)) ((w.alloc (.deferred (some []))).alloc (.loop (L fn))):=fun fn=>
   Good.added g1.rel (.loop (L fn)) _ ⟨w.heap.size+1,0,0,true,0⟩ bh.symm rfl ⟨rfl,rfl⟩
    ⟨L fn,Ft _,rfl,rfl,hf.size,hf.tmps.mono (Match.le_trans g1.le (oV _ g1.rel.oW)),rfl,rfl,rfl⟩ (fun c g t h=>by cases h)
  have mZ:(eD (eD m H.next ⟨w.heap.size,0,0,true,0⟩) (H.add .defers).next ⟨w.heap.size+1,0,0,true,0⟩) (H.add .defers).next=some ⟨w.heap.size+1,0,0,true,0⟩:=jE _ _ _
  refine wpIn_rangeFunc fun fn _=>?_
  have tC:=g1.trans (g2 fn)
  have G1:=Fj hE bE (B:=B) (lo0:=lo0) _ _ _ _ _ h2 _ _ _ #[.func (.yield (w.heap.size+1)) #[] #[]] (hg.mono tC.le)
   (.one (.func ⟨_,mZ,rfl⟩ rfl rfl (fun i v v' h=>by simp at h) (fun i v v' h=>by simp at h))) (g2 fn).rel
  cases iv:a.eval g with
  |func f' gk qn=>
   rw[iv]at hg G1
   cases hg with
   |func cQ _ _ _ _=>
    simp only[FnRel]at cQ
    subst cQ
    have hbody:∃ fd c,E.fn.get gf=some fd∧fd.body=some c:=by
     simp only[callBody,target,wo,we]at h2
     obtain⟨fd,k1,h2⟩:=h2
     split at h2
     ·rw[Lc]at h2
      simp at h2
     ·rename_i c k2
      exact⟨fd,c,k1,k2⟩
    obtain⟨fd,c,k1,k2⟩:=hbody
    have gF:∀ bF w',(callFunc gf bF).run E.P w'= .ok (.enter gf bF) w':=fun bF w'=>by
     simp only[callFunc,wB,run_program,wu,hE.fn gf fd k1,hE.num gf fd k1,k2,wG,waa,Option.isNone_some,wC]
    simp only[Deferred.ofValue,wB,wC,wu,invoke,gF]at G1
    have VU:(fj none).depth.isSome=true→1≤0:=fun h=>by simp[fj,Fence.wide]at h
    refine⟨w.heap.size+1,([{target:= .collected w.heap.size,args:= #[]}]:List Deferred),(w.alloc (.deferred (some []))).alloc (.loop (L fn)),
     ({target:= .fn (.func gf) qn,args:=gk++ #[Value.func (Fn.yield (w.heap.size+1)) #[] #[]]}:Deferred),(w.alloc (.deferred (some []))).alloc (.loop (L fn)),gf,
     gk++ #[Value.func (Fn.yield (w.heap.size+1)) #[] #[]]++qn,(w.alloc (.deferred (some []))).alloc (.loop (L fn)),?_,?_,fun _ _=>trivial,(by simp only[invoke];exact gF _ _),VU,?_⟩
    ·show(Instr.enterLoop fn a.tmps ps assign body none).run E.P w=_
     simp only[Instr.enterLoop,wB,wC,wbN,wu]
     rw[←bh]
     rfl
    ·have pk:(#[Operand.const (.func (.yield (w.heap.size+1)) #[] #[])]).map a.eval= #[Value.func (Fn.yield (w.heap.size+1)) #[] #[]]:=by simp[Act.eval]
     simp only[resolve,iv,Deferred.ofValue,wC,pk]
    ·have h5:CallsIn (fj none) 0 E.P _ _ _ _:=G1
     refine h5.mono fun e w₃ ⟨v,he,m₃,mK,_⟩=>?_
     subst he
     have G2:=mK.le _ _ mZ
     simp only at h3
     split at h3
     ·rename_i st eQ size T DE as bo de dn
      obtain⟨L₃,e1,e2,e3,e4,e5,e6,e7,e8⟩:=Fc (mK.rel.obj _ _ _ G2 dn)
      have aj:H₃.lo≤(H.add .defers).next:=by
       have:=hR.ag
       rw[mK.lo,(g2 fn).lo,g1.lo,jq];omega
      have hb:=(mK.rel.dom _ _ G2).2.1
      have Cx:Good B lo0 m₃ H₃ w₃ m₃ (H₃.setObj (H.add .defers).next (.loop .exhausted eQ size T DE as bo de)) (dR w₃ (w.heap.size+1) (.loop {L₃ with state:= .exhausted})):=by
       refine Good.exchange mK.rel G2 aj dn (fun c g t h=>by cases h) (fun c g t h=>by cases h) (o':= .loop .exhausted eQ size T DE as bo de) ?_ ?_ ?_ (fun j x hx=>?_) ⟨_,nK _ hb,rfl,e3,e4,e5,e6,e7,e8⟩
       ·simp[Heap.setObj,Tr.force_eq]
       ·simp[Heap.setObj,Tr.force_eq]
       ·simp[Heap.setObj,Tr.force_eq]
       ·simp only[Heap.setObj,Tr.force_eq]at hx
        exact Tr.dq hx
      have cP:=(tC.trans mK).trans Cx
      have jF:st≠ .busy→(Instr.endLoop (w.heap.size+1)).run E.P w₃= .ok eQ (dR w₃ (w.heap.size+1) (.loop {L₃ with state:= .exhausted})):=fun cK=>by
       have gu:(L₃.state==LoopState.busy)=false:=by rw[e2];cases st<;>first|rfl|exact absurd rfl cK
       simp only[Instr.endLoop,wB,Ct e1,wu,gu,wG,waa,wC,ql e1 (fun c e f h=>by cases h),e3]
      have NO:mT m₃ (H.next::fr.marks) ([{target:= .collected w.heap.size,args:= #[]}]++a.defers):=by
       refine⟨⟨⟨w.heap.size,0,0,true,0⟩,mK.le _ _ ((g2 fn).le _ _ (jE _ _ _)),rfl⟩,hf.marks.mono (Match.le_trans tC.le mK.le)⟩
      have cQ:gG m₃ {T:=fr.T,size:=fr.size,marks:=H.next::fr.marks,round:=fr.round} {a with defers:=[{target:= .collected w.heap.size,args:= #[]}]++a.defers} none:=
       ⟨hf.tmps.mono (Match.le_trans tC.le mK.le),hf.size,NO,hf.round⟩
      have cK:st≠ .busy:=fun cK=>by subst cK;simp at h3
      refine⟨eQ,_,jF cK,?_⟩
      cases eQ with
      |none=>
       have h6:ex= .normal∧bq={T:=fr.T,size:=fr.size,marks:=H.next::fr.marks,round:=fr.round}∧H'=H₃.setObj (H.add .defers).next (.loop .exhausted none size T DE as bo de):=by
        cases st<;>simp only[wi,wk,reduceCtorEq]at h3<;>exact⟨h3.1.symm,h3.2.1.symm,h3.2.2.symm⟩
       obtain⟨rfl,rfl,rfl⟩:=h6
       exact⟨rfl,m₃,cP,cQ,fun _ _=>rfl⟩
      |some cc=>
       have h6:(cc= .ret∨∃ id,cc= .exit id)∧run cc {T:=fr.T,size:=fr.size,marks:=H.next::fr.marks,round:=fr.round} (H₃.setObj (H.add .defers).next (.loop .exhausted (some cc) size T DE as bo de))=some (ex,bq,H'):=by
        cases cc<;>cases st<;>simp only[reduceCtorEq]at h3<;>first
         |exact⟨.inl rfl,h3⟩
         |exact⟨.inr ⟨_,rfl⟩,h3⟩
       obtain⟨h7,h8⟩:=h6
       refine waJ (bE cc _ _ ex bq H' h8 B lo0 m₃ _ _ none Cx.rel cQ) fun e a' w' hp=>fU.after cP (fun _ _=>rfl) (fun t _=>?_) hp
       rcases h7 with rfl|⟨id,rfl⟩<;>simp[writesOf]
     ·simp at h3
  |_=>rw[iv]at hg;cases hg
 ·simp at h
theorem VV{run:Code→Fr→Heap→Option (Ex×Fr×Heap)}(bE:oA E run){c:Code}{fr bq:Fr}{ex:Ex}{H':Heap}{a:Act}{ro:Option Nat}(hR:Rel B lo0 m H w)(hf:gG m fr a ro)(h:zJ run c fr H=some (ex,bq,H')):
  (Code.loop c).wpIn (fj ro) 0 E.P (fU B lo0 m H w (.loop c) a ro ex bq H') a w:=by
 unfold zJ at h
 simp only[we]at h
 obtain⟨⟨cT,eo,H₁⟩,h1,h2⟩:=h
 have one:∀ cT eo H₁,run c fr H=some (cT,eo,H₁)→cT≠ .normal→(Code.loop c).wpIn (fj ro) 0 E.P (fU B lo0 m H w (.loop c) a ro cT eo H₁) a w:=fun cT eo H₁ h1 a9=>by
  refine wpIn_loop_rounds 1 ?_
  rw[wcs]
  refine waJ (bE c fr H _ _ _ h1 B lo0 m a w ro hR hf) fun e a' w' hp=>?_
  have he:=hp.1
  have jb:=fU.after (c':= .loop c) (.refl hR) (fun _ _=>rfl) (fun t h' h=>h' h) hp
  cases cT with
  |normal=>exact absurd rfl a9
  |ret=>subst he;exact jb
  |exit id=>subst he;exact jb
 cases cT with
 |ret=>
  simp only[wi,wk]at h2
  obtain⟨rfl,rfl,rfl⟩:=h2
  exact one _ _ _ h1 (by simp)
 |exit id=>
  simp only[wi,wk]at h2
  obtain⟨rfl,rfl,rfl⟩:=h2
  exact one _ _ _ h1 (by simp)
 |normal=>
  simp only[we]at h2
  obtain⟨⟨Gm,tA,H₂⟩,h3,h4⟩:=h2
  refine wpIn_loop_rounds 2 ?_
  rw[wcs]
  refine waJ (bE c fr H _ _ _ h1 B lo0 m a w ro hR hf) fun e a' w' hp=>?_
  obtain⟨rfl,m₁,tB,fH,ue⟩:=hp
  show Code.roundsIn (fj ro) 0 E.P c _ 1 a' w'
  rw[wcs]
  refine waJ (bE c eo H₁ _ _ _ h3 B lo0 m₁ a' w' ro tB.rel fH) fun e a₂ w₂ hp=>?_
  have he:=hp.1
  have jb:=fU.after (c':= .loop c) tB (fun t ht=>ue t ht) (fun t h' h=>h' h) hp
  cases Gm with
  |normal=>simp at h4
  |ret=>
   simp only[wi,wk]at h4
   obtain⟨rfl,rfl,rfl⟩:=h4
   subst he;exact jb
  |exit id=>
   simp only[wi,wk]at h4
   obtain⟨rfl,rfl,rfl⟩:=h4
   subst he;exact jb
theorem VW(hE:EnvOk E)(hO:OrcOk E){run:Code→Fr→Heap→Option (Ex×Fr×Heap)}(tZ:vC run)(bE:oA E run)(VX:DD E run):oA E (runWith E run)∧DD E (runWith E run):=by
 have hL:DD E (runWith E run):=by
  intro c fr H ex bq H' hh h
  simp only[runWith,hh,we]at h
  obtain⟨⟨cT,eo,H₁⟩,h1,h2⟩:=h
  by_cases hex:cT= .normal
  ·subst hex
   simp only at h2
   obtain⟨N,hN⟩:=VX c eo H₁ ex bq H' hh h2
   refine⟨N+1,fun B lo0 m a w ro hR hf=>?_⟩
   rw[wcs]
   refine waJ (bE c fr H _ _ _ h1 B lo0 m a w ro hR hf) fun e a₁ w₁ ⟨he,m₁,hg,fH,ht⟩=>?_
   refine GZ he (fun _=>?_) (fun h=>absurd rfl h)
   exact NN (fun e a' w' hp=>fU.after hg ht (fun t ht=>ht) hp) (hN B lo0 m₁ a₁ w₁ ro hg.rel fH)
  ·refine⟨1,fun B lo0 m a w ro hR hf=>?_⟩
   rw[wcs]
   have h3:cT=ex∧eo=bq∧H₁=H':=by cases cT<;>simp_all
   obtain⟨rfl,rfl,rfl⟩:=h3
   refine waJ (bE c fr H _ _ _ h1 B lo0 m a w ro hR hf) fun e a₁ w₁ ⟨he,m₁,hg,fH,ht⟩=>?_
   exact GZ he (fun h=>absurd h hex) (fun _=>⟨rfl,m₁,hg,fH,ht⟩)
 refine⟨?_,hL⟩
 intro c fr H ex bq H' h B lo0 m a w ro hR hf
 have still:∀ {c:Code},fU B lo0 m H w c a ro .normal fr H .normal a w:=⟨rfl,m,.refl hR,hf,fun _ _=>rfl⟩
 cases c with
 |skip=>
  simp only[runWith,wi,wk]at h
  obtain⟨rfl,rfl,rfl⟩:=h
  exact wpIn_skip still
 |label l=>
  simp only[runWith,wi,wk]at h
  obtain⟨rfl,rfl,rfl⟩:=h
  exact wpIn_label still
 |exit id=>
  simp only[runWith,wi,wk]at h
  obtain⟨rfl,rfl,rfl⟩:=h
  exact wpIn_exit ⟨rfl,m,.refl hR,hf,fun _ _=>rfl⟩
 |ret=>
  simp only[runWith,wi,wk]at h
  obtain⟨rfl,rfl,rfl⟩:=h
  exact wpIn_ret ⟨rfl,m,.refl hR,hf,fun _ _=>rfl⟩
 |region id ops rL=>
  cases rL with
  |false=>
   simp only[runWith,we,wi,wk]at h
   obtain⟨⟨T',H₁⟩,h1,rfl,rfl,rfl⟩:=h
   exact VY hE (Fl hE hO bE) hR hf h1
  |true=>
   simp only[runWith,we,wi,wk]at h
   obtain⟨⟨T',H₁⟩,h1,rfl,rfl,rfl⟩:=h
   exact Ua hE (fun B lo0=>Fl hE hO bE) (CY hO.low tZ) hR hf h1
 |seq x y=>
  simp only[runWith,we]at h
  obtain⟨⟨cT,eo,H₁⟩,h1,h2⟩:=h
  refine wpIn_seq (waJ (bE x fr H _ _ _ h1 B lo0 m a w ro hR hf) fun e a₁ w₁ ⟨he,m₁,hg,fH,ht⟩=>GZ he (fun hn=>?_) (fun hn=>?_))
  ·subst hn
   refine waJ (bE y eo H₁ _ _ _ h2 B lo0 m₁ a₁ w₁ ro hg.rel fH) fun e a' w' hp=>fU.after hg (fun t h'=>ht t fun h=>h' ?_) (fun t h' h=>h' ?_) hp
   ·simp[writesOf,h]
   ·simp[writesOf,h]
  ·have h3:cT=ex∧eo=bq∧H₁=H':=by cases cT<;>simp_all
   obtain⟨rfl,rfl,rfl⟩:=h3
   exact⟨rfl,m₁,hg,fH,fun t h'=>ht t fun h=>h' (by simp[writesOf,h])⟩
 |cond x p q=>
  simp only[runWith,we]at h
  obtain⟨v,h1,h2⟩:=h
  have hv:=cO hf.tmps h1
  split at h2
  ·have he:a.eval x= .bool true:=by generalize a.eval x=z at hv;cases hv;rfl
   refine wpIn_cond_true he (waJ (bE p fr H _ _ _ h2 B lo0 m a w ro hR hf) fun e a' w' hp=>fU.after (.refl hR) (fun _ _=>rfl) (fun t h' h=>h' (by simp[writesOf,h])) hp)
  ·have he:a.eval x= .bool false:=by generalize a.eval x=z at hv;cases hv;rfl
   refine wpIn_cond_false he (waJ (bE q fr H _ _ _ h2 B lo0 m a w ro hR hf) fun e a' w' hp=>fU.after (.refl hR) (fun _ _=>rfl) (fun t h' h=>h' (by simp[writesOf,h])) hp)
  ·simp at h2
 |block id x=>
  simp only[runWith,we]at h
  obtain⟨⟨cT,eo,H₁⟩,h1,h2⟩:=h
  refine wpIn_block (waJ (bE x fr H _ _ _ h1 B lo0 m a w ro hR hf) fun e a₁ w₁ ⟨he,m₁,hg,fH,ht⟩=>?_)
  have qF:∀ t,t∉writesOf (.block id x)→a₁.tmps[t]? =a.tmps[t]? :=fun t h'=>ht t fun h=>h' (by simp[writesOf,h])
  subst he
  cases cT with
  |normal=>
   simp only[wi,wk]at h2
   obtain⟨rfl,rfl,rfl⟩:=h2
   exact⟨rfl,m₁,hg,fH,qF⟩
  |ret=>
   simp only[wi,wk]at h2
   obtain⟨rfl,rfl,rfl⟩:=h2
   exact⟨rfl,m₁,hg,fH,qF⟩
  |exit i=>
   simp only at h2
   cases hb:Nat.beq i id with
   |true=>
    rw[hb]at h2
    simp only[wai,wi,wk]at h2
    obtain⟨rfl,rfl,rfl⟩:=h2
    have:i=id:=by simpa using hb
    simp only[Ex.to,Exit.inBlock,this,wah]
    exact⟨rfl,m₁,hg,fH,qF⟩
   |false=>
    rw[hb]at h2
    simp only[wS,wi,wk]at h2
    obtain⟨rfl,rfl,rfl⟩:=h2
    have:¬ i=id:=fun h=>by subst h;simp at hb
    simp only[Ex.to,Exit.inBlock,this,waa]
    exact⟨rfl,m₁,hg,fH,qF⟩
 |loop x=>
  cases hh:headNext x with
  |none=>
   obtain⟨N,hN⟩:=hL x fr H ex bq H' hh h
   exact wpIn_loop_rounds N (hN B lo0 m a w ro hR hf)
  |some it=>
   simp only[runWith,hh]at h
   cases hg:xR fr.T H it with
   |false=>
    rw[hg]at h
    exact U7 hE hO bE hR hf hh h
   |true=>
    rw[hg]at h
    exact VV bE hR hf h
 |scope x=>
  simp only[runWith]at h
  refine VS (waJ (bE x fr H _ _ _ h B lo0 m a w ro hR hf) fun e a' w' hp=>fU.after (.refl hR) (fun _ _=>rfl) (fun t h' h=>h' (by simp[writesOf,h])) hp) fun l a w h=>?_
  have:=h.1
  cases ex<;>cases this
 |rangeFunc g ps assign body=>
  simp only[runWith]at h
  cases hr:fr.round with
  |some l=>rw[hr]at h;simp at h
  |none=>
   rw[hr]at h
   simp only[we]at h
   obtain⟨gv,h1,h2⟩:=h
   exact VT hE bE hR hf hr h1 h2
 |_=>simp[runWith]at h
theorem Af(hE:EnvOk E)(hO:OrcOk E):∀ n,oA E (run E n)∧DD E (run E n)
 |0=>⟨fun c fr H ex bq H' h=>by simp[run]at h,fun c fr H ex bq H' _ h=>by simp[run]at h⟩
 |n+1=>VW hE hO (Gc hO.low n) (Af hE hO n).1 (Af hE hO n).2
end
section
variable[Maps]{B lo0:Nat}{m:Match}{H:Heap}{w:World}{E:Env}
structure Old(B:Nat)(w w':World):Prop where
 ax:∀ b,b<B→w'.heap[b]? =w.heap[b]?
 size:w.heap.size≤w'.heap.size
 os:w'.os=w.os∧w'.output=w.output
end
section
variable{B lo0:Nat}{m:Match}{w:World}{P:Program}
theorem Old.refl(B:Nat)(w:World):Old B w w:=⟨fun _ _=>rfl,wy _,rfl,rfl⟩
theorem Old.trans{w w' fE:World}(h:Old B w w')(h':Old B w' fE):Old B w fE:=
 ⟨fun b hb=>(h'.ax b hb).trans (h.ax b hb),wK h.size h'.size,h'.os.1.trans h.os.1,h'.os.2.trans h.os.2⟩
end
section
variable[Maps]{B lo0:Nat}{m:Match}{H:Heap}{w:World}{E:Env}
theorem Good.aS{m':Match}{H':Heap}{w':World}(hR:Rel B H.lo m H w)(h:Good B H.lo m H w m' H' w'):Old B w w':=
 ⟨fun b hb=>h.frame b (wq hb hR.base) fun r p hr hl iy=>by have:=(hR.dom r p hr).2.2.1 hl;omega,h.size,h.os⟩
theorem Rel.Ae(hR:Rel B lo0 m H w){H':Heap}(ho:∀ r o,H'.objs.get r=some o→H.objs.get r=some o)(hg:∀ g l,H'.grps.get g=some l→H.grps.get g=some l)(hn:H'.next=H.next)(hl:H'.lo=H.lo):Rel B lo0 m H' w where
 base:=hR.base
 fJ:=hR.fJ
 lo:=by rw[hl];exact hR.lo
 ag:=by rw[hl,hn];exact hR.ag
 dom:=by rw[hn];exact hR.dom
 obj r p o h h':=hR.obj r p o h (ho r o h')
 sep r r' p p' o o' a9 aj h h' h1 h2 he:=hR.sep r r' p p' o o' a9 aj h h' (ho _ _ h1) (ho _ _ h2) he
 dF r r' p p' c c' g z z' h h' h1 h2:=hR.dF r r' p p' c c' g z z' h h' (ho _ _ h1) (ho _ _ h2)
 aS r p c g z h h1 l Ag:=hR.aS r p c g z h (ho _ _ h1) l (hg g l Ag)
 ends r r' p p' c c' g z z' t h h' h1 h2 he:=hR.ends r r' p p' c c' g z z' t h h' (ho _ _ h1) (ho _ _ h2) he
 bH r p c g z t h h1:=by rw[hn];exact hR.bH r p c g z t h (ho _ _ h1)
def Tr.CU{α:Type}:List (Nat×α)→Tr α→Tr α
 |[],s=>s
 |x::l,s=>(s.set x.1 x.2).force fun s=>Tr.CU l s
def Tr.pairs{α:Type}(l:List (Nat×α)):Tr α:=Tr.CU l Tr.nil
def flat:Code→List Code
 | .seq a b=>flat a++flat b
 |c=>[c]
def og(P:Program)(Q:Exit→Act→World→Prop):List Code→Act→World→Prop
 |[],a,w=>Q .normal a w
 |c::l,a,w=>c.wpIn (fj none) 0 P (Exit.then (og P Q l) Q) a w
end
section
variable{B lo0:Nat}{m:Match}{w:World}{P:Program}
theorem N6{P:Program}{Q:Exit→Act→World→Prop}:∀ (l l':List Code) (a:Act) (w:World),og P Q (l++l') a w→og P (Exit.then (og P Q l') Q) l a w
 |[],l',a,w,h=>h
 |c::l,l',a,w,h=>by
  refine waJ h fun e a' w' he=>?_
  cases e<;>first|exact N6 l l' _ _ he|exact he
theorem Wf{P:Program}:∀ (c:Code) {Q:Exit→Act→World→Prop} {a:Act} {w:World},og P Q (flat c) a w→c.wpIn (fj none) 0 P Q a w:=by
 have one:∀ (c:Code) {Q:Exit→Act→World→Prop} {a:Act} {w:World},og P Q [c] a w→c.wpIn (fj none) 0 P Q a w:=fun c Q a w h=>
  waJ h fun e a' w' he=>by cases e<;>exact he
 intro c
 induction c with
 |seq x y Gq MN=>
  intro Q a w h
  refine wpIn_seq (Gq ?_)
  have:=N6 (flat x) (flat y) a w h
  have mono:∀ (l:List Code) (N N':Exit→Act→World→Prop),(∀e a w,N e a w→N' e a w)→∀ a w,og P N l a w→og P N' l a w:=by
   intro l N N' hN
   induction l with
   |nil=>intro a w h;exact hN _ _ _ h
   |cons c l ih=>
    intro a w h
    refine waJ h fun e a' w' he=>?_
    cases e<;>first|exact ih _ _ he|exact hN _ _ _ he
  refine mono _ _ _ (fun e a w he=>?_) a w this
  cases e<;>first|exact MN he|exact he
 |_=>intro Q a w h;exact one _ h
end
section
variable[Maps]{B lo0:Nat}{m:Match}{H:Heap}{w:World}{E:Env}
def runL(run:Code→Fr→Heap→Option (Ex×Fr×Heap)):List Code→Fr→Heap→Option (Ex×Fr×Heap)
 |[],fr,H=>some (.normal,fr,H)
 |c::l,fr,H=>(run c fr H).bind fun r=>
  match r.1 with
  | .normal=>runL run l r.2.1 r.2.2
  |e=>some (e,r.2)
theorem G6{run:Code→Fr→Heap→Option (Ex×Fr×Heap)}(bE:oA E run){Q:Exit→Act→World→Prop}{l2:List Code}:∀ (l:List Code) (fr:Fr) (H:Heap) (ex:Ex) (bq:Fr) (H':Heap) (m:Match) (a:Act) (w:World),
  runL run l fr H=some (ex,bq,H')→Rel B lo0 m H w→gG m fr a none→
  (∀a' w' m',Good B lo0 m H w m' H' w'→gG m' bq a' none→(ex= .normal→og E.P Q l2 a' w')∧(ex≠ .normal→Q ex.to a' w'))→og E.P Q (l++l2) a w
 |[],fr,H,ex,bq,H',m,a,w,h,hR,hf,hq=>by
  simp only[runL,wi,wk]at h
  obtain⟨rfl,rfl,rfl⟩:=h
  exact(hq a w m (.refl hR) hf).1 rfl
 |c::l,fr,H,ex,bq,H',m,a,w,h,hR,hf,hq=>by
  simp only[runL,we]at h
  obtain⟨⟨cT,eo,H₁⟩,h1,h2⟩:=h
  refine waJ (bE c fr H _ _ _ h1 B lo0 m a w none hR hf) fun e a₁ w₁ ⟨he,m₁,hg,fH,_⟩=>?_
  subst he
  cases cT with
  |normal=>
   exact G6 bE l eo H₁ ex bq H' m₁ a₁ w₁ h2 hg.rel fH fun a' w' m' iv dZ=>hq a' w' m' (hg.trans iv) dZ
  |exit id=>
   simp only[wi,wk]at h2
   obtain⟨rfl,rfl,rfl⟩:=h2
   exact(hq a₁ w₁ m₁ hg fH).2 (by simp)
  |ret=>
   simp only[wi,wk]at h2
   obtain⟨rfl,rfl,rfl⟩:=h2
   exact(hq a₁ w₁ m₁ hg fH).2 (by simp)
def keepTr{α:Type}(t:Tr α):List Nat→Tr α→Tr α
 |[],s=>s
 |k::l,s=>match t.get k with
  |some x=>(s.set k x).force fun s=>keepTr t l s
  |none=>keepTr t l s
theorem G7{α:Type}{t:Tr α}{k:Nat}{v:α}:∀ {l:List Nat} {s:Tr α},(keepTr t l s).get k=some v→s.get k=some v∨t.get k=some v
 |[],s,h=> .inl h
 |j::l,s,h=>by
  simp only[keepTr]at h
  split at h
  ·rename_i x hx
   rw[Tr.force_eq]at h
   rcases G7 h with h|h
   ·rcases Tr.dq h with⟨rfl,rfl⟩|⟨_,h⟩
    ·exact .inr hx
    ·exact .inl h
   ·exact .inr h
  ·exact G7 h
theorem x9{α:Type}{t:Tr α}{k:Nat}{v:α}{l:List Nat}(h:(keepTr t l Tr.nil).get k=some v):t.get k=some v:=by
 rcases G7 h with h|h
 ·simp[Tr.get_nil]at h
 ·exact h
def chunkN(E:Env)(n:Nat)(l:List Code)(kT kR kG:List Nat)(fr:Fr)(H:Heap):Option (Fr×Heap):=
 (runL (run E n) l fr H).bind fun r=>
  match r.1,r.2.1.marks with
  | .normal,[]=>(keepTr r.2.1.T kT Tr.nil).force fun T=>(keepTr r.2.2.objs kR Tr.nil).force fun O=>(keepTr r.2.2.grps kG Tr.nil).force fun G=>
    some ({T,size:=r.2.1.size,marks:=[],round:=none},{objs:=O,grps:=G,next:=r.2.2.next,lo:=r.2.2.lo})
  |_,_=>none
def endN(E:Env)(n:Nat)(fn:Func)(l:List Code)(fr:Fr)(H:Heap):Option Value:=
 (runL (run E n) l fr H).bind fun r=>
  match r.1 with
  | .exit _=>none
  |_=>(killMarks H.lo r.2.2.objs r.2.1.marks).bind fun t=>(resultsV E {objs:=t,grps:=r.2.2.grps,next:=r.2.2.next,lo:=r.2.2.lo} r.2.1.T fn.results.toList).bind fun vs=>some (jH vs)
def Fin(E:Env)(fn:Func)(B lo:Nat)(w:World)(v:Value):Exit→Act→World→Prop:=fun e a' w'=>(e= .normal∨e= .ret)∧Old B w w'∧
 ∃m' H' bq t vs,H'.lo=lo∧Rel B lo m' H' w'∧gG m' bq a' none∧killMarks lo H'.objs bq.marks=some t∧resultsV E {objs:=t,grps:=H'.grps,next:=H'.next,lo:=H'.lo} bq.T fn.results.toList=some vs∧jH vs=v
theorem Fin.aS{fn:Func}{lo:Nat}{w w₁:World}{v:Value}(h:Old B w w₁){e:Exit}{a':Act}{w':World}(hf:Fin E fn B lo w₁ v e a' w'):Fin E fn B lo w v e a' w':=⟨hf.1,h.trans hf.2.1,hf.2.2⟩
end
section
variable{B lo0:Nat}{m:Match}{w:World}{P:Program}
theorem N7{P:Program}{N N':Exit→Act→World→Prop}(hN:∀ e a w,N e a w→N' e a w):∀ (l:List Code) (a:Act) (w:World),og P N l a w→og P N' l a w
 |[],a,w,h=>hN _ _ _ h
 |c::l,a,w,h=>by
  refine waJ h fun e a' w' he=>?_
  cases e<;>first|exact N7 hN l _ _ he|exact hN _ _ _ he
end
section
variable[Maps]{B lo0:Nat}{m:Match}{H:Heap}{w:World}{E:Env}
def Ends(E:Env)(fn:Func)(l:List Code)(fr:Fr)(H:Heap)(v:Value):Prop:=∀ B m a w,Rel B H.lo m H w→gG m fr a none→og E.P (Fin E fn B H.lo w v) l a w
theorem Ends.chunk(hE:EnvOk E)(hO:OrcOk E){fn:Func}{n:Nat}{l l2:List Code}{kT kR kG:List Nat}{fr oa:Fr}{H H2:Heap}{v:Value}(h:chunkN E n l kT kR kG fr H=some (oa,H2))(h2:Ends E fn l2 oa H2 v):Ends E fn (l++l2) fr H v:=by
 intro B m a w hR hf
 unfold chunkN at h
 simp only[we]at h
 obtain⟨⟨ex,rW,H1⟩,h3,h4⟩:=h
 simp only at h4
 split at h4
 ·rename_i hm
  simp only[Tr.force_eq,wi,wk]at h4
  obtain⟨rfl,rfl⟩:=h4
  refine G6 (Af hE hO n).1 l fr H .normal rW H1 m a w h3 hR hf fun a' w' m' hg dZ=>?_
  refine⟨fun _=>?_,fun h=>absurd rfl h⟩
  have aj:H1.lo=H.lo:=hg.lo
  have nW:Rel B H1.lo m' {objs:=keepTr H1.objs kR Tr.nil,grps:=keepTr H1.grps kG Tr.nil,next:=H1.next,lo:=H1.lo} w':=by
   rw[aj]
   have:=hg.rel.Ae (H':={objs:=keepTr H1.objs kR Tr.nil,grps:=keepTr H1.grps kG Tr.nil,next:=H1.next,lo:=H1.lo}) (fun r o h=>x9 h) (fun g l h=>x9 h) rfl rfl
   simpa[aj]using this
  have cQ:gG m' {T:=keepTr rW.T kT Tr.nil,size:=rW.size,marks:=[],round:=none} a' none:=by
   refine⟨fun t v hv=>dZ.tmps t v (x9 hv),dZ.size,?_,fun _=>rfl⟩
   have:=dZ.marks
   rw[hm]at this
   exact this
  have:=h2 B m' a' w' nW cQ
  simp only[aj]at this
  exact N7 (fun e a w hh=>hh.aS (hg.aS hR)) _ _ _ this
 ·simp at h4
theorem Ends.part(hE:EnvOk E)(hO:OrcOk E){fn:Func}{L:List Code}{n a k b:Nat}{kT kR kG:List Nat}{fr oa:Fr}{H H2:Heap}{v:Value}(h:chunkN E n ((L.drop a).take k) kT kR kG fr H=some (oa,H2))(hb:a+k=b)(h2:Ends E fn (L.drop b) oa H2 v):Ends E fn (L.drop a) fr H v:=by
 have:=Ends.chunk hE hO h h2
 rwa [←hb,←wbZ,List.take_append_drop]at this
theorem Ends.last(hE:EnvOk E)(hO:OrcOk E){fn:Func}{n:Nat}{l:List Code}{fr:Fr}{H:Heap}{v:Value}(h:endN E n fn l fr H=some v):Ends E fn l fr H v:=by
 intro B m a w hR hf
 unfold endN at h
 simp only[we]at h
 obtain⟨⟨ex,rW,H1⟩,h3,h4⟩:=h
 have hex:∀ id,ex≠ .exit id:=fun id he=>by subst he;simp at h4
 have h5:∃ t vs,killMarks H.lo H1.objs rW.marks=some t∧resultsV E {objs:=t,grps:=H1.grps,next:=H1.next,lo:=H1.lo} rW.T fn.results.toList=some vs∧jH vs=v:=by
  cases ex with
  |exit id=>exact absurd rfl (hex id)
  |_=>
   simp only[we,wi]at h4
   obtain⟨t,h5,vs,h6,h7⟩:=h4
   exact⟨t,vs,h5,h6,h7⟩
 obtain⟨t,vs,h5,h6,h7⟩:=h5
 have:=G6 (Af hE hO n).1 (Q:=Fin E fn B H.lo w v) (l2:=[]) l fr H ex rW H1 m a w h3 hR hf fun a' w' m' hg dZ=>by
  have vD:∀ e,(e= .normal∨e= .ret)→Fin E fn B H.lo w v e a' w':=fun e he=>⟨he,hg.aS hR,m',H1,rW,t,vs,hg.lo,hg.rel,dZ,h5,h6,h7⟩
  refine⟨fun _=>vD _ (.inl rfl),fun hn=>?_⟩
  cases ex with
  |normal=>exact absurd rfl hn
  |ret=>exact vD _ (.inr rfl)
  |exit id=>exact absurd rfl (hex id)
 simpa using this
theorem calls_of_ends(hE:EnvOk E){g:FuncId}{fn:Func}{c:Code}{args:List Value}{bF:Array Value}{v:Value}(h1:E.fn.get g=some fn)(h2:fn.body=some c)(h3:args.length≤fn.ntmps)
  (h:Ends E fn (flat c) {T:=Tr.of args,size:=fn.ntmps,marks:=[],round:=none} H v) (hv:∀ m v',VRel m v v'→v'=v) (hR:Rel B H.lo m H w) (ha:LRel m args bF.toList):
  Calls E.P g bF w fun e w'=>e= .returned v∧Old B w w':=by
 rw[←callsIn_wide (n:=0)]
 have hf:=hE.fn g fn h1
 refine wcQ hf h2 trivial ?_
 have cQ:gG m {T:=Tr.of args,size:=fn.ntmps,marks:=[],round:=none} {tmps:=bF++Array.replicate (fn.ntmps-bF.size) undef,defers:=[]} none:=by
  refine⟨fun t v hv=>?_,?_,trivial,fun _=>rfl⟩
  ·obtain⟨v',e1,e2⟩:=ha.get (Tr.zE hv)
   have:t<bF.size:=by simpa using(wD.1 e1).1
   exact⟨v',by rw[wcb this];simpa using e1,e2⟩
  ·have:=ha.1
   simp at this ⊢;omega
 refine waJ (Wf c (h B m _ w hR cQ)) fun e a' w' hp=>?_
 obtain⟨he,hold,m',H',bq,t,vs,hl,nW,dZ,hk,hr,hp⟩:=hp
 have tz:LeavesInM Fence.wide 0 E.P fn a'.tmps (fun e fE=>e= .returned v∧Old B w fE) a'.defers .returning w':=by
  refine Cv (B:=B) (lo0:=H.lo) bq.marks a'.defers H' w' t dZ.marks nW (by rw[hl];exact hk) fun fE iv=>?_
  obtain⟨v',r1,r2⟩:=Fg hE iv.rel dZ.tmps hr
  rw[hp]at r2
  refine⟨v',r1,by rw[hv m' v' r2],hold.trans ?_⟩
  refine⟨fun b hb=>iv.frame b (wq hb nW.base) fun r p Gg lu iy=>?_,iv.size,iv.os⟩
  have:=(nW.dom r p Gg).2.2.1 (by rw[←hl];exact lu)
  omega
 rcases he with rfl|rfl
 ·exact tz
 ·exact tz
end
section
variable{B lo0:Nat}{m:Match}{w:World}{P:Program}
theorem plain_eq{v:Value}(h:plain1 v=true):∀ m v',VRel m v v'→v'=v:=by
 intro m v' hv
 cases hv<;>first|rfl|simp[plain1]at h
end
section
variable[Maps]{B lo0:Nat}{m:Match}{H:Heap}{w:World}{E:Env}
theorem rel_empty(w:World)(hg:GN≤w.heap.size∧GL w):Rel w.heap.size 0 (fun _=>none) Heap.empty w where
 base:=wy _
 fJ:=hg
 lo:=wy _
 ag:=wy _
 dom r p h:=by cases h
 obj r p o h:=by cases h
 sep r r' p p' o o' _ _ h:=by cases h
 dF r r' p p' c c' g z z' h:=by cases h
 aS r p c g z h:=by cases h
 ends r r' p p' c c' g z z' t h:=by cases h
 bH r p c g z t h:=by cases h
def orcOf(l:List (FuncId×Value)):dc:=fun f args H=>
 match f,args with
 | .func (.func g) first captured,[]=>
   bif first.toList.isEmpty&&captured.toList.isEmpty then(match l.find? fun x=>Nat.beq x.1 g with
    |some x=>some (x.2,H)
    |none=>none)else none
 |_,_=>none
def Env.with(E:Env)(o:dc):Env:={P:=E.P,ty:=E.ty,fn:=E.fn,orc:=o}
theorem EnvOk.with(hE:EnvOk E)(o:dc):EnvOk (E.with o):={hE with}
def Knows(E:Env)(x:FuncId×Value):Prop:=plain1 x.2=true∧(∃fn c,E.fn.get x.1=some fn∧fn.body=some c)∧∀ w,GN≤w.heap.size→GL w→Calls E.P x.1 #[] w fun e w'=>e= .returned x.2∧Old w.heap.size w w'
theorem orcOf_ok(hE:EnvOk E){l:List (FuncId×Value)}(h:∀ x∈l,Knows E x):OrcOk (E.with (orcOf l)):=by
 have inv:∀ {f:Value} {args:List Value} {H:Heap} {v:Value} {H':Heap},orcOf l f args H=some (v,H')→∃ x∈l,f= .func (.func x.1) #[] #[]∧args=[]∧v=x.2∧H'=H:=by
  intro f args H v H' hh
  unfold orcOf at hh
  split at hh
  ·rename_i g first captured
   obtain⟨h1,h2⟩:=cr hh
   split at h2
   ·rename_i x hx
    simp only[wi,wk]at h2
    simp only[wA,List.isEmpty_iff]at h1
    have hg:x.1=g:=by simpa using List.find?_some hx
    refine⟨x,List.mem_of_find?_eq_some hx,?_,rfl,h2.1.symm,h2.2.symm⟩
    rw[hg]
    have e1:first= #[]:=wba.1 h1.1
    have e2:captured= #[]:=wba.1 h1.2
    rw[e1,e2]
   ·simp at h2
  ·simp at hh
 refine⟨fun B lo0 f args H v H' hh m w f' bF hf ha hR=>?_,fun f args H v H' _ hh=>?_⟩
 ·obtain⟨x,hx,rfl,rfl,rfl,rfl⟩:=inv hh
  obtain⟨hp,⟨fn,c,h1,h2⟩,hc⟩:=h x hx
  cases hf with
  |func cQ pe tD ra rb=>
   rename_i f₁ gk qn
   simp only[FnRel]at cQ
   subst cQ
   have e1:gk= #[]:=wba.1 (LRel.mI (m:=m) ⟨pe,ra⟩)
   have e2:qn= #[]:=wba.1 (LRel.mI (m:=m) ⟨tD,rb⟩)
   have e3:bF= #[]:=wba.1 ha.mI
   subst e1 e2 e3
   have gF:(callFunc x.1 #[]).run E.P w= .ok (.enter x.1 #[]) w:=by
    simp only[callFunc,wB,run_program,wu,hE.fn x.1 fn h1,hE.num x.1 fn h1,h2,wG,waa,Option.isNone_some,wC]
   have:(do let d ←Deferred.ofValue (.func (.func x.1) #[] #[]) #[];invoke d.target d.args:Sem Next).run (E.with (orcOf l)).P w= .ok (.enter x.1 #[]) w:=by
    simp only[Deferred.ofValue,wB,wC,wu,invoke]
    exact gF
   rw[this]
   show CallsIn Fence.wide 0 E.P x.1 #[] w _
   rw[callsIn_wide]
   refine(hc w (wK hR.fJ.1 hR.base) hR.fJ.2).mono fun e w' ⟨he,ho⟩=>⟨x.2,he,m,?_,GY hp⟩
   have nW:Rel B lo0 m H' w':=by
    refine hR.hold ho.size (fun b hb=>ho.ax b (wq hb hR.base)) (fun r p o hr _=>ho.ax _ (hR.dom r p hr).2.1) (fun r o h=>h) rfl rfl hR.lo hR.ag
   exact⟨m.le_refl,nW,fun _ _ h=> .inl h,fun r p h h'=>(by rw[h]at h';cases h'),wy _,rfl,fun b hb _=>ho.ax b hb,ho.size,fun _ _ _ h=>h,ho.os⟩
 ·obtain⟨x,_,_,_,_,rfl⟩:=inv hh
  exact .refl _
end
section
variable[Maps]{B lo0:Nat}{m:Match}{H:Heap}{w:World}{E:Env}
structure We(w w':World):Prop where
 ax:∀ b,b<w.heap.size→w'.heap[b]? =w.heap[b]?
 size:w.heap.size≤w'.heap.size
 os:w'.os=w.os∧w'.output=w.output
theorem Good.grown(hR:Rel B lo0 m H w){w':World}(h:We w w'):Good B lo0 m H w m H w':=by
 have nW:Rel B lo0 m H w':=hR.hold h.size (fun b hb=>h.ax b (wq hb hR.base)) (fun r p o hr _=>h.ax _ (hR.dom r p hr).2.1) (fun r o h=>h) rfl rfl hR.lo hR.ag
 exact⟨m.le_refl,nW,fun _ _ h=> .inl h,fun r p h h'=>(by rw[h]at h';cases h'),wy _,rfl,fun b hb _=>h.ax b hb,h.size,fun _ _ _ h=>h,h.os⟩
structure Told where
 g:FuncId
 f:List Value→Heap→Option (Value×Heap)
structure zh9(E:Env)(x:Told):Prop where
 body:∃ fn c,E.fn.get x.g=some fn∧fn.body=some c
 low:∀ args H v H',H.lo≤H.next→x.f args H=some (v,H')→dC H H'
 Cy:∀ B lo0 m H w args (bF:Array Value) v H',x.f args H=some (v,H')→LRel m args bF.toList→Rel B lo0 m H w→Calls E.P x.g bF w fun e w'=>∃ v' m',e= .returned v'∧Good B lo0 m H w m' H' w'∧VRel m' v v'
end
section
variable[Maps]{B lo0:Nat}{m:Match}{H:Heap}{w:World}{E:Env}
def F6:Option Nat→Option Nat→Bool
 |none,none=>true
 |some a,some b=>Nat.beq a b
 |_,_=>false
def CP:Option Addr→Option Addr→Bool
 |none,none=>true
 |some ⟨b,o,none⟩,some ⟨b',o',none⟩=>Nat.beq b b'&&Nat.beq o o'
 |_,_=>false
def F7:Fn→Fn→Bool
 | .func a,.func b=>Nat.beq a b
 |_,_=>false
mutual
def vz:Nat→Value→Value→Bool
 |0,_,_=>false
 |n+1,a,b=>
  match a,b with
  | .bool x,.bool y=>(match x,y with
    |true,true=>true
    |false,false=>true
    |_,_=>false)
  | .int k x,.int k' y=>sameKind k k'&&eqI x y
  | .string s,.string t=>mL s t
  | .pointer x,.pointer y=>CP x y
  | .slice x l c,.slice y l' c'=>CP x y&&Nat.beq l l'&&Nat.beq c c'
  | .map x,.map y=>F6 x y
  | .nilFunc,.nilFunc=>true
  | .nilIface,.nilIface=>true
  | .func f x y,.func f' x' y'=>F7 f f'&&qB n x.toList x'.toList&&qB n y.toList y'.toList
  | .iface t v,.iface t' v'=>Nat.beq t t'&&vz n v v'
  | .agg x,.agg y=>qB n x.toList y.toList
  | .tuple x,.tuple y=>qB n x.toList y.toList
  |_,_=>false
def qB:Nat→List Value→List Value→Bool
 |0,_,_=>false
 |n+1,x,y=>
  match x,y with
  |[],[]=>true
  |a::l,b::r=>vz n a b&&qB n l r
  |_,_=>false
end
def x8:List (Value×Value)→List (Value×Value)→Bool
 |[],[]=>true
 |x::l,y::r=>vz 1000 x.1 y.1&&vz 1000 x.2 y.2&&x8 l r
 |_,_=>false
def F8:Option (Nat×Nat)→Option (Nat×Nat)→Bool
 |none,none=>true
 |some (a,b),some (c,d)=>Nat.beq a c&&Nat.beq b d
 |_,_=>false
def F9:Bool→Bool→Bool
 |true,true=>true
 |false,false=>true
 |_,_=>false
def Ga:AObj→AObj→Bool
 | .row c g t,.row c' g' t'=>qB 100000 c c'&&F8 g g'&&F9 t t'
 | .map es,.map bm=>x8 es bm
 | .defers,.defers=>true
 |_,_=>false
end
section
variable{B lo0:Nat}{m:Match}{w:World}{P:Program}
theorem UK{a b:Option Nat}(h:F6 a b=true):a=b:=by
 cases a<;>cases b<;>simp_all[F6]
theorem Mo{a b:Option Addr}(h:CP a b=true):a=b:=by
 unfold CP at h
 split at h<;>simp_all
theorem UL{a b:Fn}(h:F7 a b=true):a=b:=by
 unfold F7 at h
 split at h<;>simp_all
theorem UM{a b:Bool}(h:F9 a b=true):a=b:=by cases a<;>cases b<;>simp_all[F9]
theorem UN{a b:Option (Nat×Nat)}(h:F8 a b=true):a=b:=by
 unfold F8 at h
 split at h<;>simp_all
theorem Ac:∀ n,(∀a b,vz n a b=true→a=b)∧(∀a b,qB n a b=true→a=b)
 |0=>⟨fun a b h=>by simp[vz]at h,fun a b h=>by simp[qB]at h⟩
 |n+1=>by
  obtain⟨Mp,Ad⟩:=Ac n
  constructor
  ·intro a b h
   unfold vz at h
   split at h
   ·split at h<;>simp_all
   ·simp only[wA,gI,wbO]at h
    rw[vA h.1,h.2]
   ·rw[CQ h]
   ·rw[Mo h]
   ·simp only[wA,wbp]at h
    rw[Mo h.1.1,h.1.2,h.2]
   ·rw[UK h]
   ·rfl
   ·rfl
   ·simp only[wA]at h
    rw[UL h.1.1,wbW.1 (Ad _ _ h.1.2),wbW.1 (Ad _ _ h.2)]
   ·simp only[wA,wbp]at h
    rw[h.1,Mp _ _ h.2]
   ·rw[wbW.1 (Ad _ _ h)]
   ·rw[wbW.1 (Ad _ _ h)]
   ·simp at h
  ·intro a b h
   unfold qB at h
   split at h
   ·rfl
   ·simp only[wA]at h
    rw[Mp _ _ h.1,Ad _ _ h.2]
   ·simp at h
theorem Mq:∀ {a b:List (Value×Value)},x8 a b=true→a=b
 |[],[],_=>rfl
 |x::l,y::r,h=>by
  simp only[x8,wA]at h
  have h1:=(Ac 1000).1 _ _ h.1.1
  have h2:=(Ac 1000).1 _ _ h.1.2
  rw[Mq h.2,Prod.ext h1 h2]
 |[],_::_,h=>by simp[x8]at h
 |_::_,[],h=>by simp[x8]at h
end
section
variable[Maps]{B lo0:Nat}{m:Match}{H:Heap}{w:World}{E:Env}
theorem UO{a b:AObj}(h:Ga a b=true):a=b:=by
 unfold Ga at h
 split at h
 ·simp only[wA]at h
  rw[(Ac 100000).2 _ _ h.1.1,UN h.1.2,UM h.2]
 ·rw[Mq h]
 ·rfl
 ·simp at h
structure Known where
 g:FuncId
 args:List Value
 objs:List (Nat×AObj)
 grps:List (Nat×List Nat)
 next:Nat
 lo:Nat
 v:Value
 H:Heap
def Known.heap(k:Known):Heap:={objs:=Tr.pairs k.objs,grps:=Tr.pairs k.grps,next:=k.next,lo:=k.lo}
def CR(t:Tr AObj):List (Nat×AObj)→Bool
 |[]=>true
 |x::l=>(match t.get x.1 with
  |some o=>Ga o x.2
  |none=>false)&&CR t l
def CS(t:Tr (List Nat)):List (Nat×List Nat)→Bool
 |[]=>true
 |x::l=>(match t.get x.1 with
  |some o=>eqNats o x.2
  |none=>false)&&CS t l
def Known.fits(k:Known)(g:FuncId)(args:List Value)(H:Heap):Bool:=
 Nat.beq k.g g&&Nat.beq k.next H.next&&Nat.beq k.lo H.lo&&qB 100000 args k.args&&CR H.objs k.objs&&CS H.grps k.grps
def CT(g:FuncId)(args:List Value)(H:Heap):List Known→Option Known
 |[]=>none
 |k::l=>bif k.fits g args H then some k else CT g args H l
def orcK(l:List Known):dc:=fun f args H=>
 match f with
 | .func (.func g) first captured=>bif first.toList.isEmpty&&captured.toList.isEmpty then(CT g args H l).bind fun k=>some (k.v,k.H)else none
 |_=>none
def knownRun(E:Env)(n:Nat)(k:Known)(kR kG:List Nat):Option (Value×Heap):=
 (callBody E (run E n) (.func (.func k.g) #[] #[]) k.args k.heap).bind fun r=>
  (keepTr r.2.objs kR Tr.nil).force fun O=>(keepTr r.2.grps kG Tr.nil).force fun G=>some (r.1,{objs:=O,grps:=G,next:=r.2.next,lo:=r.2.lo})
structure KOk(P:Program)(k:Known):Prop where
 Cy:∀ B lo0 m w (bF:Array Value),LRel m k.args bF.toList→Rel B lo0 m k.heap w→
  UpTo P (fun v' w'=>∃ m',Good B lo0 m k.heap w m' k.H w'∧VRel m' k.v v') ((do let d ←Deferred.ofValue (.func (.func k.g) #[] #[]) bF;invoke d.target d.args:Sem Next).run P w)
 low:k.lo≤k.next→dC k.heap k.H
theorem Good.Ae{m':Match}{H' H2:Heap}{w':World}(h:Good B lo0 m H w m' H' w')(ho:∀ r o,H2.objs.get r=some o→H'.objs.get r=some o)(hg:∀ g l,H2.grps.get g=some l→H'.grps.get g=some l)(hn:H2.next=H'.next)(hl:H2.lo=H'.lo):Good B lo0 m H w m' H2 w':=
 ⟨h.le,h.rel.Ae ho hg hn hl,h.new,h.ax,by rw[hn];exact h.ag,hl.trans h.lo,h.frame,h.size,fun r o hr hx=>h.low r o hr (ho r o hx),h.os⟩
theorem known_ok(hE:EnvOk E)(hO:OrcOk E){k:Known}{n:Nat}{kR kG:List Nat}(h:knownRun E n k kR kG=some (k.v,k.H)):KOk E.P k:=by
 unfold knownRun at h
 simp only[we,Tr.force_eq,wi,wk]at h
 obtain⟨⟨v,H1⟩,h1,h2,h3⟩:=h
 refine⟨fun B lo0 m w bF ha hR=>?_,fun hl=>?_⟩
 ·have:=Fj hE (Af hE hO n).1 (B:=B) (lo0:=lo0) _ _ _ _ _ h1 m w (.func (.func k.g) #[] #[]) bF (.func rfl rfl rfl (fun i v v' h=>by simp at h) (fun i v v' h=>by simp at h)) ha hR
  refine this.mono fun v' w' ⟨m',hg,hv⟩=>⟨m',?_,by rw[←h2];exact hv⟩
  rw[←h3]
  exact hg.Ae (fun r o h=>x9 h) (fun g l h=>x9 h) rfl rfl
 ·have:=Gb (Gc hO.low n) _ _ _ _ _ hl h1
  rw[←h3]
  exact⟨this.lo,this.ag,fun r o hr hx=>this.low r o hr (x9 hx)⟩
theorem Mr{α:Type}{k:Nat}{v:α}:∀ {l:List (Nat×α)} {s:Tr α},(Tr.CU l s).get k=some v→(k,v)∈l∨s.get k=some v
 |[],s,h=> .inr h
 |x::l,s,h=>by
  simp only[Tr.CU,Tr.force_eq]at h
  rcases Mr h with h|h
  ·exact .inl (wM _ h)
  ·rcases Tr.dq h with⟨h1,h2⟩|⟨_,h⟩
   ·left;rw[h1,h2];exact wW ..
   ·exact .inr h
theorem Ms{α:Type}{k:Nat}{v:α}{l:List (Nat×α)}(h:(Tr.pairs l).get k=some v):(k,v)∈l:=by
 rcases Mr h with h|h
 ·exact h
 ·simp[Tr.get_nil]at h
theorem Mt{t:Tr AObj}:∀ {l:List (Nat×AObj)},CR t l=true→∀ x∈l,t.get x.1=some x.2
 |y::l,h,x,hx=>by
  simp only[CR,wA]at h
  rcases wad.1 hx with rfl|hx
  ·have h1:=h.1
   split at h1
   ·rename_i o ho;rw[ho,UO h1]
   ·cases h1
  ·exact Mt h.2 x hx
theorem Mu{t:Tr (List Nat)}:∀ {l:List (Nat×List Nat)},CS t l=true→∀ x∈l,t.get x.1=some x.2
 |y::l,h,x,hx=>by
  simp only[CS,wA]at h
  rcases wad.1 hx with rfl|hx
  ·have h1:=h.1
   split at h1
   ·rename_i o ho
    have:∀ {a b:List Nat},eqNats a b=true→a=b:=by
     intro a
     induction a with
     |nil=>intro b h;cases b<;>simp_all[eqNats]
     |cons c a ih=>
      intro b h
      cases b with
      |nil=>simp[eqNats]at h
      |cons d b=>
       simp only[eqNats,wA,wbp]at h
       rw[h.1,ih h.2]
    rw[ho,this h1]
   ·cases h1
  ·exact Mu h.2 x hx
theorem Mv{g:FuncId}{args:List Value}{k:Known}:∀ {l:List Known},CT g args H l=some k→k∈l∧k.fits g args H=true
 |x::l,h=>by
  simp only[CT]at h
  cases hf:x.fits g args H with
  |true=>
   rw[hf]at h
   simp only[wai,wi]at h
   subst h
   exact⟨wW ..,hf⟩
  |false=>
   rw[hf]at h
   obtain⟨h1,h2⟩:=Mv h
   exact⟨wM _ h1,h2⟩
theorem orcK_ok{l:List Known}(h:∀ k∈l,KOk E.P k):OrcOk (E.with (orcK l)):=by
 have inv:∀ {f:Value} {args:List Value} {H:Heap} {v:Value} {H':Heap},orcK l f args H=some (v,H')→∃ k∈l,f= .func (.func k.g) #[] #[]∧args=k.args∧v=k.v∧H'=k.H∧H.next=k.next∧H.lo=k.lo∧
   (∀r o,k.heap.objs.get r=some o→H.objs.get r=some o)∧(∀g l,k.heap.grps.get g=some l→H.grps.get g=some l):=by
  intro f args H v H' hh
  unfold orcK at hh
  split at hh
  ·rename_i g first captured
   obtain⟨h1,h2⟩:=cr hh
   simp only[we,wi,wk]at h2
   obtain⟨k,h3,h4,h5⟩:=h2
   obtain⟨h6,h7⟩:=Mv h3
   simp only[Known.fits,wA,wbp]at h7
   obtain⟨⟨⟨⟨⟨e1,e2⟩,e3⟩,e4⟩,e5⟩,e6⟩:=h7
   simp only[wA,List.isEmpty_iff]at h1
   have e7:first= #[]:=wba.1 h1.1
   have e8:captured= #[]:=wba.1 h1.2
   refine⟨k,h6,by rw[e7,e8,e1],(Ac 100000).2 _ _ e4,h4.symm,h5.symm,e2.symm,e3.symm,fun r o hr=>Mt e5 _ (Ms hr),fun g l hg=>Mu e6 _ (Ms hg)⟩
  ·simp at hh
 refine⟨fun B lo0 f args H v H' hh m w f' bF hf ha hR=>?_,fun f args H v H' aj hh=>?_⟩
 ·obtain⟨k,hk,rfl,rfl,rfl,rfl,hn,hl,ho,hg⟩:=inv hh
  cases hf with
  |func cQ pe tD ra rb=>
   rename_i f₁ gk qn
   simp only[FnRel]at cQ
   subst cQ
   have e1:gk= #[]:=wba.1 (LRel.mI (m:=m) ⟨pe,ra⟩)
   have e2:qn= #[]:=wba.1 (LRel.mI (m:=m) ⟨tD,rb⟩)
   subst e1 e2
   have UP:Rel B lo0 m k.heap w:=hR.Ae ho hg hn.symm hl.symm
   refine((h k hk).Cy B lo0 m w bF ha UP).mono fun v' w' ⟨m',qD,hv⟩=>⟨m',?_,hv⟩
   have Mw:k.heap.next=H.next:=hn.symm
   have ia:k.heap.lo=H.lo:=hl.symm
   exact⟨qD.le,qD.rel,fun r p hp=>by rw[←Mw];exact qD.new r p hp,fun r p hp hm=>by rw[←ia];exact qD.ax r p hp hm,by rw[←Mw];exact qD.ag,by rw[←ia];exact qD.lo,
    fun b hb hf=>qD.frame b hb fun r p hr aj=>hf r p hr (by rw[←ia];exact aj),qD.size,fun r o hr hx=>ho r o (qD.low r o (by rw[ia];exact hr) hx),qD.os⟩
 ·obtain⟨k,hk,_,_,_,rfl,hn,hl,ho,_⟩:=inv hh
  have:=(h k hk).low (by rw[←hn,←hl];exact aj)
  exact⟨this.lo.trans hl.symm,by rw[hn];exact this.ag,fun r o hr hx=>ho r o (this.low r o (by show r<k.lo;rw[←hl];exact hr) hx)⟩
end
end Go.AM
namespace Go.AM
open Go.ChangeShapes Go.WideShapes Go.ChangeAt Go.RowKit
section
variable{H:Type}{enc:TypeId×Value→H}{P:Program}
theorem Old.keptBut{W W':World}(h:Old W.heap.size W W')(My:MemPlace→Prop):W.keptBut W' My:=by
 refine⟨h.os.1,h.os.2,fun i hi=>?_⟩
 rw[h.ax i hi]
 cases W.heap[i]? with
 |none=>rfl
 |some o=>cases o<;>simp
theorem Old.sameAt{W W':World}(h:Old W.heap.size W W'){p:MemPlace}(hp:p.block<W.heap.size):W.sameAt W' p:=by
 cases p with
 |cell b off=>exact World.cell?_of_block (h.ax b hp)
 |map b=>exact h.ax b hp
theorem Mz(hl:laidOutB P=true){W W':World}(ho:Old W.heap.size W W'):∀ {ts:List TypeId} {vs:List Value} {ds:List (DataW H)} {ps:List MemPlace},(∀t∈ts,P.readableRec t=true∧t<P.types.size)→
  DataW.TrodAll enc P W 0 (fun _=>true) true ts vs ds ps→(∀p∈ps,p.block<W.heap.size)→DataW.TrodAll enc P W' 0 (fun b=>decide (b<W.heap.size)) true ts vs ds ps
 |[],_,_,_,_,h,_=>by
  obtain⟨rfl,rfl,rfl⟩:=trodAll_nil h
  rfl
 |t::ts,_,_,_,hr,h,hp=>by
  obtain⟨v,vs1,d,ds1,a,b,rfl,rfl,rfl,h1,h2⟩:=trodAll_cons h
  refine trodAll_cons_mk (WideElems.Trod_stays hl (hr t (wW ..)).1 (hr t (wW ..)).2 h1 (fun p Ge=>ho.sameAt (hp p (List.mem_append_left _ Ge))) fun p Ge=>by simpa using hp p (List.mem_append_left _ Ge)) ?_
  exact Mz hl ho (fun t ht=>hr t (wM _ ht)) h2 fun p iy=>hp p (List.mem_append_right _ iy)
end
theorem law_lifted{C:Checked}{os:Os}{H:Type}{enc:TypeId×Value→H}{s:ChangeSpec}{f:FuncId}{fn:Func}{MA:List PathCond}(own:ownKnob C.prog.godebug=none)(started:os.Started)(US:C.prog.inits.idxOf? f=none)(hfn:C.prog.funcs[f]? =some fn)
  (witness:∃ (w:World) (tape:Tape) (i:Input),w.os=os∧(w.forCall tape i).Shaped C.prog∧i.vars=[]∧Input.okWide C.prog (w.forCall tape i) .any w.heap.size f i∧
   s.pre6 enc C.prog fn MA false (w.forCall tape i).memory i.args∧({}:Assume).holds C.prog (lone (Frame.enter C.prog f i.args .normal) [] (w.forCall tape i)))
  (MB:s.vars=[]) (hs:∀ ds:List (DataW H),ds.length=fn.params.size→s.fn H ds={results:=[.lit (.bool true)],args:=ds}) {tb:TypeId} (UT:fn.resultTypes= #[tb]) (qE:C.prog.underlying tb=some .bool)
  (UU:laidOutB C.prog=true) (UW:fn.params.toList.all (fun t=>C.prog.readableRec t&&decide (t<C.prog.types.size))=true)
  (calls:∀ (W:World) (base:Nat) (args:Array Value) (ds:List (DataW H)) (before:List MemPlace),(∀(j:Nat) t v,fn.params[j]? =some t→args[j]? =some v→Value.okWide C.prog W .any base t v)→
   DataW.TrodAll enc C.prog W 0 (fun _=>true) true fn.params.toList args.toList ds before→(∀p∈before,p.block<W.heap.size)→W.noneFrozen before→
   Calls C.prog f args W fun e W'=>e= .returned (.bool true)∧Old W.heap.size W W'):
  ReturnsInHanded {} C os f .any (s.pre6 enc C.prog fn MA false) (s.post enc C.prog fn false true false false):=by
 refine returnsInHanded_of_change (C:=C) own started US hfn witness ?_
 intro W base args ds gs before hval hW zh1 _
 have Gf:=hW
 obtain⟨p,q,hA,hV,rfl,hfz,jd⟩:=hW
 rw[MB]at hV
 obtain⟨rfl,rfl⟩:=trodVars_none hV
 simp only[waw]at Gf hfz
 have hlt:∀ x∈p,x.block<W.heap.size:=fun x hx=>by simpa using Gf.lt x hx
 refine(calls W base args ds p hval hA hlt hfz).mono fun e W' ⟨he,ho⟩=>?_
 subst he
 have cg:ds.length=fn.params.size:=by
  have key:∀ {ts:List TypeId} {vs:List Value} {ds:List (DataW H)} {ps:List MemPlace},DataW.TrodAll enc C.prog W 0 (fun _=>true) true ts vs ds ps→ds.length=ts.length:=by
   intro ts
   induction ts with
   |nil=>intro vs ds ps h;obtain⟨_,rfl,_⟩:=trodAll_nil h;rfl
   |cons t ts ih=>
    intro vs ds ps h
    obtain⟨v,vs1,d,ds1,a,b,rfl,rfl,rfl,h1,h2⟩:=trodAll_cons h
    simp[ih h2]
  have:=key hA
  simpa using this
 have hr:∀ t∈fn.params.toList,C.prog.readableRec t=true∧t<C.prog.types.size:=fun t ht=>by
  have:=waC.1 UW t ht
  simpa using this
 refine⟨_,rfl,ds,[],p,[],p,[],Gf,?_,?_,?_,?_,fun h=>by cases h⟩
 ·rw[waw,hs ds cg,UT]
  exact trodAll_cons_mk (shut_bool qE _) trodAll_mk0
 ·rw[waw,hs ds cg]
  exact Mz UU ho hr hA hlt
 ·rw[waw,hs ds cg,MB]
  rfl
 ·exact ho.keptBut _
end Go.AM
namespace Go.AM
open Go.ChangeShapes Go.WideShapes
end Go.AM
namespace Go.AM
section
variable[Maps]{E:Env}
def ui(r₁ r₂:Code→Fr→Heap→Option (Ex×Fr×Heap)):Prop:=∀ c fr H x,r₁ c fr H=some x→r₂ c fr H=some x
def yg(c₁ c₂:dc):Prop:=∀ f args H x,c₁ f args H=some x→c₂ f args H=some x
theorem Di{c₁ c₂:dc}(hc:yg c₁ c₂){T:Tr Value}{o:Oper}{H:Heap}{x:Value×Heap}(h:exOp E c₁ T o H=some x):exOp E c₂ T o H=some x:=by
 unfold exOp at h⊢
 cases ho:o.op<;>simp only[ho]at h⊢
 case call c=>
  simp only[we]at h
  obtain⟨args,h1,h⟩:=h
  simp only[h1,wo]
  cases ln:c.callee with
  |builtin b=>simp only[ln]at h ⊢;exact h
  |value f=>
   simp only[ln,we]at h⊢
   obtain⟨fv,h2,h3⟩:=h
   exact⟨fv,h2,hc _ _ _ _ h3⟩
  |invoke y name=>
   simp only[ln,we]at h⊢
   obtain⟨xv,h2,mm,h3,h4⟩:=h
   exact⟨xv,h2,mm,h3,hc _ _ _ _ h4⟩
 case makeMap t r=>cases r<;>exact h
 case next y b=>cases b<;>exact h
 all_goals exact h
theorem Ao{c₁ c₂:dc}(hc:yg c₁ c₂){all:List Oper}{size:Nat}:∀ {l:List Oper} {T:Tr Value} {H:Heap} {x:Tr Value×Heap},exOps E c₁ all size l T H=some x→exOps E c₂ all size l T H=some x
 |[],_,_,_,h=>h
 |o::l,T,H,x,h=>by
  simp only[exOps,ub]at h⊢
  split at h
  ·simp at h
  ·rename_i hw
   simp only[we]at h
   obtain⟨r,h1,T1,h2,h3⟩:=h
   simp only[hw,Di hc h1,wo,h2]
   exact Ao hc h3
  ·rename_i hw
   simp only[we]at h
   obtain⟨T1,h2,h3⟩:=h
   simp only[hw,h2,wo]
   exact Ao hc h3
theorem Dj{c₁ c₂:dc}(hc:yg c₁ c₂){all:List Oper}{size:Nat}:∀ {l:List Oper} {bf:List Info} {T:Tr Value} {H:Heap} {x:Tr Value×Heap},exDraw E c₁ all size l bf T H=some x→exDraw E c₂ all size l bf T H=some x
 |[],_,_,_,_,h=>h
 |o::l,[],T,H,x,h=>by simp[exDraw]at h
 |o::l,i::bf,T,H,x,h=>by
  simp only[exDraw,ub]at h⊢
  split at h
  ·simp at h
  ·rename_i hw
   obtain⟨ha,h⟩:=cr h
   simp only[we]at h
   obtain⟨r,h1,h⟩:=h
   obtain⟨hk,h⟩:=cr h
   simp only[we]at h
   obtain⟨T1,h2,h3⟩:=h
   simp only[hw,ha,wai,Di hc h1,wo,hk,h2]
   exact Dj hc h3
  ·rename_i hw
   simp only[we]at h
   obtain⟨T1,h2,h3⟩:=h
   simp only[hw,h2,wo]
   exact Dj hc h3
theorem Vo{c₁ c₂:dc}(hc:yg c₁ c₂){ops:Array Oper}{size:Nat}{T:Tr Value}{H:Heap}{x:Tr Value×Heap}(h:rJ E c₁ ops size T H=some x):rJ E c₂ ops size T H=some x:=by
 unfold rJ at h⊢
 obtain⟨h0,h⟩:=cM h
 simp only[we]at h
 obtain⟨bf,h1,r,h2,h3⟩:=h
 simp only[h0,wS,h1,wo,Dj hc h2]
 exact h3
theorem M8{r₁ r₂:Code→Fr→Heap→Option (Ex×Fr×Heap)}(hr:ui r₁ r₂):yg (callBody E r₁) (callBody E r₂):=by
 intro f args H x h
 simp only[callBody,we]at h⊢
 obtain⟨p,h1,h⟩:=h
 refine⟨p,h1,?_⟩
 split at h
 ·simp only[we]at h⊢
  obtain⟨fn,k1,h⟩:=h
  refine⟨fn,k1,?_⟩
  split at h
  ·exact h
  rename_i hb
  obtain⟨k3,h⟩:=cM h
  simp only[we]at h
  obtain⟨r,k4,h⟩:=h
  simp only[hb,k3,wS,hr _ _ _ _ k4,wo]
  exact h
 ·split at h
  ·rename_i dn
   obtain⟨k1,h⟩:=cM h
   simp only[we]at h
   obtain⟨T',k2,r,k3,h⟩:=h
   simp only[dn,k1,wS,k2,wo,hr _ _ _ _ k3]
   split at h
   ·rename_i he
    simp only[we]at h
    obtain⟨H2,k4,r2,k5,h⟩:=h
    simp only[he,k4,wo,hr _ _ _ _ k5]
    exact h
   ·simp at h
  ·simp at h
 ·simp at h
theorem vG{r₁ r₂:Code→Fr→Heap→Option (Ex×Fr×Heap)}(hr:ui r₁ r₂):yg (fS E r₁) (fS E r₂):=by
 intro f args H x h
 unfold fS at h⊢
 cases ho:E.orc f args H with
 |some r=>rw[ho]at h;exact h
 |none=>rw[ho]at h;exact M8 hr _ _ _ _ h
theorem vF{r₁ r₂:Code→Fr→Heap→Option (Ex×Fr×Heap)}(hr:ui r₁ r₂){v:Value}:∀ (c:Code) {fr:Fr} {H:Heap} {x:Ex×Fr×Heap},runHead E r₁ v c fr H=some x→runHead E r₂ v c fr H=some x
 | .seq a b,fr,H,x,h=>by
   simp only[runHead,we]at h⊢
   obtain⟨r,h1,h2⟩:=h
   refine⟨r,vF hr a h1,?_⟩
   split at h2
   ·exact hr _ _ _ _ h2
   ·exact h2
 | .region id ops d,fr,H,x,h=>by
   simp only[runHead]at h⊢
   split at h
   ·rename_i hl
    simp only[hl,we]at h⊢
    obtain⟨T,h1,r,h2,h3⟩:=h
    exact⟨T,h1,r,Ao (vG hr) h2,h3⟩
   ·simp at h
 | .skip,_,_,_,h| .cond ..,_,_,_,h| .block ..,_,_,_,h| .loop ..,_,_,_,h| .rangeFunc ..,_,_,_,h| .exit ..,_,_,_,h| .scope ..,_,_,_,h
 | .label ..,_,_,_,h| .goto ..,_,_,_,h| .ret,_,_,_,h| .refuse ..,_,_,_,h=>by simp[runHead]at h
theorem An{r₁ r₂:Code→Fr→Heap→Option (Ex×Fr×Heap)}(hr:ui r₁ r₂){c:Code}{fr:Fr}{H:Heap}{r:Nat}{m:Option Nat}{n:Nat}:∀ {es:List (Value×Value)} {i:Nat} {acc o:Option (List (Tmp×Value))},roundsV E r₁ c fr H r m n es i acc=some o→roundsV E r₂ c fr H r m n es i acc=some o
 |[],_,_,_,h=>h
 |e::es,i,acc,o,h=>by
  simp only[roundsV]at h⊢
  split at h
  ·rename_i bE
   rw[vF hr c bE]
   obtain⟨k,h⟩:=cr h
   simp only[k,wai]
   split at h
   ·exact An hr h
   ·exact An hr h
   ·simp at h
  ·simp at h
theorem Vp{r₁ r₂:Code→Fr→Heap→Option (Ex×Fr×Heap)}(hr:ui r₁ r₂):ui (runWith E r₁) (runWith E r₂):=by
 intro c fr H x h
 cases c with
 |region id ops d=>
  cases d with
  |false=>
   simp only[runWith,we]at h⊢
   obtain⟨r,h1,h2⟩:=h
   exact⟨r,Ao (vG hr) h1,h2⟩
  |true=>
   simp only[runWith,we]at h⊢
   obtain⟨r,h1,h2⟩:=h
   exact⟨r,Vo (vG hr) h1,h2⟩
 |seq a b=>
  simp only[runWith,we]at h⊢
  obtain⟨r,h1,h2⟩:=h
  refine⟨r,hr _ _ _ _ h1,?_⟩
  split at h2
  ·exact hr _ _ _ _ h2
  ·exact h2
 |cond x a b=>
  simp only[runWith,we]at h⊢
  obtain⟨v,h1,h2⟩:=h
  refine⟨v,h1,?_⟩
  split at h2
  ·exact hr _ _ _ _ h2
  ·exact hr _ _ _ _ h2
  ·simp at h2
 |block id a=>
  simp only[runWith,we]at h⊢
  obtain⟨r,h1,h2⟩:=h
  exact⟨r,hr _ _ _ _ h1,h2⟩
 |loop a=>
  simp only[runWith]at h⊢
  cases hh:headNext a with
  |some it=>
   rw[hh]at h
   simp only at h⊢
   cases hg:xR fr.T H it with
   |true=>
    rw[hg]at h
    simp only[wai]at h⊢
    unfold zJ at h⊢
    simp only[we]at h⊢
    obtain⟨r,h1,h2⟩:=h
    refine⟨r,hr _ _ _ _ h1,?_⟩
    split at h2
    ·simp only[we]at h2⊢
     obtain⟨r2,h3,h4⟩:=h2
     exact⟨r2,hr _ _ _ _ h3,h4⟩
    ·exact h2
   |false=>
   rw[hg]at h
   simp only[wS]at h⊢
   unfold mapLoop at h⊢
   simp only[Tr.force_eq,we]at h⊢
   obtain⟨MP,h1,h⟩:=h
   refine⟨MP,h1,?_⟩
   split at h
   ·split at h
    ·rename_i ho
     simp only[ho,we]at h⊢
     obtain⟨es,h2,h⟩:=h
     obtain⟨k,h⟩:=cM h
     simp only[we]at h
     obtain⟨o,k2,h⟩:=h
     refine⟨es,h2,?_⟩
     simp only[k,wS,An hr k2,wo]
     cases o with
     |some vs=>exact h
     |none=>
      simp only[we]at h⊢
      obtain⟨r,h3,h4⟩:=h
      exact⟨r,vF hr _ h3,h4⟩
    ·simp at h
   ·simp at h
  |none=>
   rw[hh]at h
   simp only[we]at h⊢
   obtain⟨r,h1,h2⟩:=h
   refine⟨r,hr _ _ _ _ h1,?_⟩
   split at h2
   ·exact hr _ _ _ _ h2
   ·exact h2
 |scope a=>exact hr _ _ _ _ h
 |rangeFunc g ps a b=>
  simp only[runWith]at h⊢
  split at h
  ·simp at h
  ·rename_i Dk
   simp only[we]at h⊢
   obtain⟨gv,h1,h⟩:=h
   refine⟨gv,h1,?_⟩
   unfold rangeV at h⊢
   simp only at h⊢
   split at h
   ·simp only[we]at h⊢
    obtain⟨r,h2,h3⟩:=h
    refine⟨r,M8 hr _ _ _ _ h2,?_⟩
    split at h3
    ·split at h3
     ·simp at h3
     ·rename_i cK
      split at h3
      ·exact h3
      ·split at h3
       ·exact hr _ _ _ _ h3
       ·exact hr _ _ _ _ h3
       ·simp at h3
    ·simp at h3
   ·simp at h
 |_=>exact h
theorem M9:∀ n,ui (run E n) (run E (n+1))
 |0=>fun c fr H x h=>by simp[run]at h
 |n+1=>Vp (M9 n)
theorem ku{n n':Nat}(h:n≤n'):ui (run E n) (run E n'):=by
 induction h with
 |refl=>exact fun _ _ _ _ h=>h
 |step _ ih=>exact fun c fr H x h=>M9 _ c fr H x (ih c fr H x h)
end
inductive Tok where
 |go
 |stop
def Pf{α:Type}(_:α):Prop:=True
theorem pf{α:Type}{a:α}:Pf a:=trivial
def optP{α:Type}(_:Tok)(o:Option α)(k:Tok→α→Prop):Prop:=∃ a,o=some a∧k .go a
theorem AE{α:Type}(a:α)(k:Tok→α→Prop):optP .go (some a) k=k .go a:=by simp[optP]
theorem N9{α:Type}(k:Tok→α→Prop):optP .go (none:Option α) k=False:=by simp[optP]
@[congr] theorem optP_congr{α:Type}{t:Tok}{o o':Option α}{k:Tok→α→Prop}(h:o=o'):optP t o k=optP t o' k:=by rw[h]
def boolP(c:Bool)(P R:Tok→Prop):Prop:=(c=true→P .go)∧(c=false→R .go)
theorem yt(P R:Tok→Prop):boolP true P R=P .go:=by simp[boolP]
theorem G9(P R:Tok→Prop):boolP false P R=R .go:=by simp[boolP]
@[congr] theorem boolP_congr{c c':Bool}{P R:Tok→Prop}(h:c=c'):boolP c P R=boolP c' P R:=by rw[h]
def asBoolP(v:Value)(P R:Tok→Prop):Prop:=
 match v with
 | .bool c=>boolP c P R
 |_=>False
@[congr] theorem asBoolP_congr{c c':Value}{P R:Tok→Prop}(h:c=c'):asBoolP c P R=asBoolP c' P R:=by rw[h]
theorem Oa(c:Bool)(P R:Tok→Prop):asBoolP (.bool c) P R=boolP c P R:=wE rfl rfl
section
variable[Maps]
def af(E:Env)(f:Value)(args:List Value)(H:Heap)(K:Value→Heap→Prop):Prop:=∃ n v H',fS E (run E n) f args H=some (v,H')∧K v H'
def gj(E:Env)(sz:Nat)(c:Code)(T:Tr Value)(mk:List Nat)(ro:Option Nat)(H:Heap)(Q:Ex→Tr Value→List Nat→Heap→Prop):Prop:=
 ∃n ex T' bs H',run E n c {T,size:=sz,marks:=mk,round:=ro} H=some (ex,{T:=T',size:=sz,marks:=bs,round:=ro},H')∧Q ex T' bs H'
def OP(_:Tok)(E:Env)(T:Tr Value)(o:Op)(H:Heap)(K:Tok→Value→Heap→Prop):Prop:=∃ n v H',exOp E (fS E (run E n)) T {dst:=none,op:=o,type:=0,pos:=default,after:= #[],guard:=none} H=some (v,H')∧K .go v H'
def resP(_:Tok)(o:Option (Value×Heap))(K:Tok→Value→Heap→Prop):Prop:=∃ v H',o=some (v,H')∧K .go v H'
theorem fR(v:Value)(H:Heap)(K:Tok→Value→Heap→Prop):resP .go (some (v,H)) K=K .go v H:=by
 simp only[resP,wi,wk,eq_iff_iff]
 exact⟨fun⟨_,_,⟨h1,h2⟩,h⟩=>by rw[h1,h2];exact h,fun h=>⟨_,_,⟨rfl,rfl⟩,h⟩⟩
@[congr] theorem resP_congr{t:Tok}{o o':Option (Value×Heap)}{K:Tok→Value→Heap→Prop}(h:o=o'):resP t o K=resP t o' K:=by rw[h]
def jn(_:Tok)(sz:Nat)(T:Tr Value)(dst:Option Tmp)(v:Value)(k:Tok→Tr Value→Prop):Prop:=
 match dst with
 |none=>k .go T
 |some d=>d<sz∧k .go (T.set d v)
def wpOps(_:Tok)(E:Env)(all:List Oper)(_:Pf all)(sz:Nat):(l:List Oper)→Pf l→Tr Value→Heap→(Tok→Tr Value→Heap→Prop)→Prop
 |[],_,T,H,K=>K .go T H
 |o::rest,_,T,H,K=>
  optP .go (wantedA T all o) fun _ b=>boolP b (fun t=>OP t E T o.op H fun t v H'=>jn t sz T o.dst v fun t T'=>wpOps t E all pf sz rest pf T' H' K) (fun t=>jn t sz T o.dst undef fun t T'=>wpOps t E all pf sz rest pf T' H K)
def exP(_:Tok)(id:Nat)(ex:Ex)(P:Tok→Prop)(Q:Tok→Ex→Prop):Prop:=
 match ex with
 | .exit i=>(i=id∧P .go)∨(i≠id∧Q .go (.exit i))
 |e=>Q .go e
def rV(_:Tok)(ex:Ex)(P:Tok→Prop)(Q:Tok→Ex→Prop):Prop:=
 match ex with
 | .normal=>P .go
 |e=>Q .go e
def wp(_:Tok)(E:Env)(sz:Nat):(c:Code)→Pf c→Tr Value→List Nat→Option Nat→Heap→(Tok→Ex→Tr Value→List Nat→Heap→Prop)→Prop
 | .skip,_,T,mk,_,H,Q=>Q .go .normal T mk H
 | .label _,_,T,mk,_,H,Q=>Q .go .normal T mk H
 | .region id ops rL,_,T,mk,ro,H,Q=>match rL with
   |false=>wpOps .go E ops.toList pf sz ops.toList pf T H fun t T' H'=>Q t .normal T' mk H'
   |true=>gj E sz (.region id ops true) T mk ro H (Q .go)
 | .seq a b,_,T,mk,ro,H,Q=>wp .go E sz a pf T mk ro H fun t ex T' bs H'=>rV t ex (fun t=>wp t E sz b pf T' bs ro H' Q) fun t e=>Q t e T' bs H'
 | .cond x a b,_,T,mk,ro,H,Q=>optP .go (ev T x) fun _ v=>asBoolP v (fun t=>wp t E sz a pf T mk ro H Q) (fun t=>wp t E sz b pf T mk ro H Q)
 | .block id a,_,T,mk,ro,H,Q=>wp .go E sz a pf T mk ro H fun t ex T' bs H'=>exP t id ex (fun t=>Q t .normal T' bs H') fun t e=>Q t e T' bs H'
 | .scope a,_,T,mk,ro,H,Q=>wp .go E sz a pf T mk ro H Q
 | .exit id,_,T,mk,_,H,Q=>Q .go (.exit id) T mk H
 | .ret,_,T,mk,_,H,Q=>Q .go .ret T mk H
 |c,_,T,mk,ro,H,Q=>gj E sz c T mk ro H (Q .go)
variable{E:Env}{sz:Nat}
theorem Ob{call:dc}{T:Tr Value}{o o':Oper}{H:Heap}(h:o.op=o'.op):exOp E call T o H=exOp E call T o' H:=by
 unfold exOp;rw[h]
theorem De{all:List Oper}:∀ {t:Tok} {l:List Oper} {p1:Pf all} {p2:Pf l} {T:Tr Value} {H:Heap} {K:Tok→Tr Value→Heap→Prop},wpOps t E all p1 sz l p2 T H K→∃ n T' H',exOps E (fS E (run E n)) all sz l T H=some (T',H')∧K .go T' H'
 |_,[],_,_,T,H,K,h=>⟨0,T,H,rfl,h⟩
 |_,o::l,_,_,T,H,K,h=>by
  obtain⟨b,hb,hk⟩:=h
  have put:∀ {v:Value} {H1:Heap},(jn .go sz T o.dst v fun t T'=>wpOps t E all pf sz l pf T' H1 K)→∃ T1,gW sz T o.dst v=some T1∧∃ n T' H',exOps E (fS E (run E n)) all sz l T1 H1=some (T',H')∧K .go T' H':=by
   intro v H1 hp
   unfold jn at hp
   unfold gW
   cases hd:o.dst with
   |none=>rw[hd]at hp;exact⟨T,rfl,De hp⟩
   |some d=>
    rw[hd]at hp
    have hb:Nat.blt d sz=true:=wP hp.1
    exact⟨T.set d v,by simp[hb,Tr.force_eq],De hp.2⟩
  cases b with
  |true=>
   obtain⟨n1,v,H1,h1,h2⟩:=hk.1 rfl
   obtain⟨T1,h3,n2,T',H',h4,h5⟩:=put h2
   refine⟨max n1 n2,T',H',?_,h5⟩
   have e1:exOp E (fS E (run E (max n1 n2))) T o H=some (v,H1):=by
    rw[Ob (o:=o) (o':={dst:=none,op:=o.op,type:=0,pos:=default,after:= #[],guard:=none}) rfl]
    exact Di (vG (ku (wbP ..))) h1
   simp only[exOps,hb,e1,wo,h3,ub]
   exact Ao (vG (ku (wbE ..))) h4
  |false=>
   obtain⟨T1,h3,n2,T',H',h4,h5⟩:=put (hk.2 rfl)
   refine⟨n2,T',H',?_,h5⟩
   simp only[exOps,hb,wo,h3]
   exact h4
theorem x7:∀ (c:Code) {t:Tok} {p:Pf c} {T:Tr Value} {mk:List Nat} {ro:Option Nat} {H:Heap} {Q:Tok→Ex→Tr Value→List Nat→Heap→Prop},wp t E sz c p T mk ro H Q→gj E sz c T mk ro H (Q .go):=by
 intro c
 induction c with
 |skip=>intro t p T mk ro H Q h;exact⟨1,_,_,_,_,rfl,h⟩
 |label l=>intro t p T mk ro H Q h;exact⟨1,_,_,_,_,rfl,h⟩
 |exit id=>intro t p T mk ro H Q h;exact⟨1,_,_,_,_,rfl,h⟩
 |ret=>intro t p T mk ro H Q h;exact⟨1,_,_,_,_,rfl,h⟩
 |region id ops d=>
  intro t p T mk ro H Q h
  cases d with
  |true=>exact h
  |false=>
   obtain⟨n,T',H',h1,h2⟩:=De (show wpOps .go E ops.toList pf sz ops.toList pf T H (fun t T' H'=>Q t .normal T' mk H')from h)
   exact⟨n+1,.normal,T',mk,H',by simp only[run,runWith,h1,wo],h2⟩
 |seq a b pC vQ=>
  intro t p T mk ro H Q h
  obtain⟨n,ex,T',bs,H',h1,h2⟩:=pC (show wp .go E sz a pf T mk ro H _ from h)
  cases ex with
  |normal=>
   obtain⟨n2,ua,T2,x5,H2,h3,h4⟩:=vQ (show wp .go E sz b pf T' bs ro H' Q from h2)
   refine⟨max n n2+1,ua,T2,x5,H2,?_,h4⟩
   simp only[run,runWith,ku (wbP n n2) _ _ _ _ h1,wo]
   exact ku (wbE n n2) _ _ _ _ h3
  |ret=>exact⟨n+1,.ret,T',bs,H',by simp only[run,runWith,h1,wo],h2⟩
  |exit id=>exact⟨n+1,.exit id,T',bs,H',by simp only[run,runWith,h1,wo],h2⟩
 |cond x a b pC vQ=>
  intro t p T mk ro H Q h
  obtain⟨v,hv,h⟩:=(show optP .go (ev T x) _ from h)
  unfold asBoolP at h
  split at h
  ·rename_i c
   cases c with
   |true=>
    obtain⟨n,ex,T',bs,H',h1,h2⟩:=pC (h.1 rfl)
    exact⟨n+1,ex,T',bs,H',by simp only[run,runWith,hv,wo,h1],h2⟩
   |false=>
    obtain⟨n,ex,T',bs,H',h1,h2⟩:=vQ (h.2 rfl)
    exact⟨n+1,ex,T',bs,H',by simp only[run,runWith,hv,wo,h1],h2⟩
  ·exact h.elim
 |block id a pC=>
  intro t p T mk ro H Q h
  obtain⟨n,ex,T',bs,H',h1,h2⟩:=pC (show wp .go E sz a pf T mk ro H _ from h)
  cases ex with
  |normal=>exact⟨n+1,.normal,T',bs,H',by simp only[run,runWith,h1,wo],h2⟩
  |ret=>exact⟨n+1,.ret,T',bs,H',by simp only[run,runWith,h1,wo],h2⟩
  |exit i=>
   rcases h2 with⟨hi,h2⟩|⟨hi,h2⟩
   ·exact⟨n+1,.normal,T',bs,H',by simp[run,runWith,h1,hi],h2⟩
   ·refine⟨n+1,.exit i,T',bs,H',?_,h2⟩
    have:Nat.beq i id=false:=by rw[waK];intro hh;exact hi (wbw hh)
    simp only[run,runWith,h1,wo,this,wS]
 |scope a pC=>
  intro t p T mk ro H Q h
  obtain⟨n,ex,T',bs,H',h1,h2⟩:=pC (show wp .go E sz a pf T mk ro H Q from h)
  exact⟨n+1,ex,T',bs,H',h1,h2⟩
 |_=>intro t p T mk ro H Q h;exact h
theorem gj.mono{c:Code}{T:Tr Value}{mk:List Nat}{ro:Option Nat}{H:Heap}{Q Q':Ex→Tr Value→List Nat→Heap→Prop}(h:gj E sz c T mk ro H Q)(hq:∀ ex T mk H,Q ex T mk H→Q' ex T mk H):gj E sz c T mk ro H Q':=by
 obtain⟨n,ex,T',bs,H',h1,h2⟩:=h
 exact⟨n,ex,T',bs,H',h1,hq _ _ _ _ h2⟩
theorem af.mono{f:Value}{args:List Value}{H:Heap}{K K':Value→Heap→Prop}(h:af E f args H K)(hk:∀ v H,K v H→K' v H):af E f args H K':=by
 obtain⟨n,v,H',h1,h2⟩:=h
 exact⟨n,v,H',h1,hk _ _ h2⟩
theorem wp_loop{c:Code}(hn:headNext c=none){T:Tr Value}{mk:List Nat}{ro:Option Nat}{H:Heap}{Q:Ex→Tr Value→List Nat→Heap→Prop}(I:Nat→Tr Value→Heap→Prop)(n0:Nat)(h0:I n0 T H)
  (step:∀ n T H,I n T H→wp .go E sz c pf T mk ro H fun t ex T' bs H'=>rV t ex (fun _=>bs=mk∧∃ m,m<n∧I m T' H') fun _ e=>Q e T' bs H'):gj E sz (.loop c) T mk ro H Q:=by
 induction n0 using Nat.strongRecOn generalizing T H with
 |ind n0 ih=>
  obtain⟨n,ex,T',bs,H',h1,h2⟩:=x7 c (step n0 T H h0)
  cases ex with
  |normal=>
   obtain⟨rfl,m,hm,h3⟩:=h2
   obtain⟨n2,ua,T2,x5,H2,h4,h5⟩:=ih m hm h3
   refine⟨max n n2+1,ua,T2,x5,H2,?_,h5⟩
   simp only[run,runWith,hn,ku (wbP n n2) _ _ _ _ h1,wo]
   exact ku (wbE n n2) _ _ _ _ h4
  |ret=>exact⟨n+1,.ret,T',bs,H',by simp only[run,runWith,hn,h1,wo],h2⟩
  |exit id=>exact⟨n+1,.exit id,T',bs,H',by simp only[run,runWith,hn,h1,wo],h2⟩
theorem E9{c:Code}(hn:headNext c=none){T:Tr Value}{mk:List Nat}{ro:Option Nat}{H:Heap}{Q:Ex→Tr Value→List Nat→Heap→Prop}(I:Nat→Tr Value→Heap→Prop)(n0:Nat)(h0:I n0 T H)
  (step:∀ n T H,I n T H→∀ Qs:Tok→Ex→Tr Value→List Nat→Heap→Prop,(∀T' H' m,m<n→I m T' H'→Qs .go .normal T' mk H')→(∀T' bs H',Q .ret T' bs H'→Qs .go .ret T' bs H')→(∀i T' bs H',Q (.exit i) T' bs H'→Qs .go (.exit i) T' bs H')→wp .go E sz c pf T mk ro H Qs):gj E sz (.loop c) T mk ro H Q:=by
 refine wp_loop hn I n0 h0 fun n T H hI=>step n T H hI _ (fun T' H' m hm Wg=>⟨rfl,m,hm,Wg⟩) (fun T' bs H' h=>h) (fun i T' bs H' h=>h)
def yn(_:Tok)(ex:Ex)(P:Tok→Prop):Prop:=
 match ex with
 | .exit _=>False
 |_=>P .go
theorem AF{g:FuncId}{fn:Func}{c:Code}{first captured:Array Value}{args:List Value}{H:Heap}{K:Value→Heap→Prop}(ho:E.orc (.func (.func g) first captured) args H=none)(h1:E.fn.get g=some fn)(h2:fn.body=some c)(h3:Nat.ble (first.toList++args++captured.toList).length fn.ntmps=true)
  (h:wp .go E fn.ntmps c pf (Tr.of (first.toList++args++captured.toList)) [] none H fun t ex T' bs H'=>yn t ex (fun t=>bs=[]∧optP t (resultsV E H' T' fn.results.toList) fun _ vs=>K (jH vs) H')):af E (.func (.func g) first captured) args H K:=by
 obtain⟨n,ex,T',bs,H',h4,h5⟩:=x7 c h
 refine⟨n,?_⟩
 have key:∀ vs,bs=[]→resultsV E H' T' fn.results.toList=some vs→(∀id,ex≠ .exit id)→fS E (run E n) (.func (.func g) first captured) args H=some (jH vs,H'):=by
  intro vs hm hr hx
  subst hm
  unfold fS
  rw[ho]
  simp only[callBody,target,wo,h1,h2,h3,wa7,wS,h4,killMarks,Tr.force_eq]
  cases ex with
  |exit id=>exact absurd rfl (hx id)
  |_=>simp only[hr,wo]
 cases ex with
 |exit id=>exact h5.elim
 |normal=>
  obtain⟨hm,vs,h6,h7⟩:=h5
  exact⟨_,H',key vs hm h6 (by simp),h7⟩
 |ret=>
  obtain⟨hm,vs,h6,h7⟩:=h5
  exact⟨_,H',key vs hm h6 (by simp),h7⟩
theorem Wh{g:FuncId}{fn:Func}{c:Code}{args:List Value}{H:Heap}{K:Value→Heap→Prop}(ho:E.orc (.func (.func g) #[] #[]) args H=none)(h1:E.fn.get g=some fn)(h2:fn.body=some c)(h3:Nat.ble args.length fn.ntmps=true)
  (h:wp .go E fn.ntmps c pf (Tr.of args) [] none H fun t ex T' bs H'=>yn t ex (fun t=>bs=[]∧optP t (resultsV E H' T' fn.results.toList) fun _ vs=>K (jH vs) H')):af E (.func (.func g) #[] #[]) args H K:=by
 refine AF ho h1 h2 (by simpa using h3) ?_
 simpa using h
end
attribute [local instance] fnMaps
section
variable{E:Env}{sz:Nat}
theorem fg{α:Type}(o:Option α)(f:α→Option (Value×Heap))(K:Tok→Value→Heap→Prop):resP .go (o.bind f) K=optP .go o fun t a=>resP t (f a) K:=by
 cases o<;>simp[resP,optP]
theorem Hb{α β:Type}(o:Option α)(f:α→Option β)(k:Tok→β→Prop):optP .go (o.bind f) k=optP .go o fun t a=>optP t (f a) k:=by
 cases o<;>simp[optP]
theorem dq(T:Tr Value)(k j:Nat)(v:Value):(T.set k v).get j=if j=k then some v else T.get j:=by
 show(if j=k then some v else T j)=_
 by_cases h:j=k
 ·simp[h]
 ·simp[h];rfl
theorem of_nil:(Tr.of []:Tr Value)=Tr.nil:=wE rfl rfl
theorem Oc(a:Value):Tr.of [a]=Tr.nil.set 0 a:=wE rfl rfl
theorem Od(a b:Value):Tr.of [a,b]=(Tr.nil.set 0 a).set 1 b:=wE rfl rfl
theorem Oe(a b c:Value):Tr.of [a,b,c]=((Tr.nil.set 0 a).set 1 b).set 2 c:=wE rfl rfl
theorem Wl(T:Tr Value)(t:Tmp):ev T (.tmp t)=T.get t:=wE rfl rfl
theorem Wm(T:Tr Value)(f:FuncId):ev T (.func f)=some (.func (.func f) #[] #[]):=wE rfl rfl
theorem Wn(T:Tr Value)(k:IntKind)(n:Int):ev T (.const (.int k n))=some (.int k n):=wE rfl rfl
theorem Wo(T:Tr Value)(b:Bool):ev T (.const (.bool b))=some (.bool b):=wE rfl rfl
theorem Wp(T:Tr Value)(s:ByteArray):ev T (.const (.string s))=some (.string s):=wE rfl rfl
theorem Wq(T:Tr Value):ev T (.const (.pointer none))=some (.pointer none):=wE rfl rfl
theorem Wr(T:Tr Value)(l c:Nat):ev T (.const (.slice none l c))=some (.slice none l c):=wE rfl rfl
theorem Hc(T:Tr Value)(all:List Oper)(d:Option Tmp)(o:Op)(t:TypeId)(p:String)(a:Array Edge):wantedA T all ⟨d,o,t,p,a,none⟩=some true:=wE rfl rfl
def wantV(o:Option Value)(want:Bool):Option Bool:=
 match o with
 |some (.bool b)=>some (b==want)
 |some (.tuple _)=>some false
 |_=>none
def guardV(T:Tr Value):Option Tmp→Bool→Option Bool
 |some d,w=>wantV (T.get d) w
 |none,_=>none
theorem Ws(T:Tr Value)(d:Tmp)(w:Bool):guardV T (some d) w=wantV (T.get d) w:=wE rfl rfl
theorem Of(T:Tr Value)(all:List Oper)(d:Option Tmp)(o:Op)(t:TypeId)(p:String)(a:Array Edge)(j:Nat)(w:Bool):wantedA T all ⟨d,o,t,p,a,some (j,w)⟩=guardV T ((all[j]?).bind (·.dst)) w:=by
 simp only[wantedA]
 cases h:(all[j]?).bind (·.dst)with
 |none=>rfl
 |some d=>
  simp only[guardV,wantV]
  rfl
theorem Wt(b w:Bool):wantV (some (.bool b)) w=some (b==w):=wE rfl rfl
theorem Wu(w:Bool):wantV (some undef) w=some false:=wE rfl rfl
theorem fQ{tk:Tok}{T:Tr Value}{o:Op}{H:Heap}{K:Tok→Value→Heap→Prop}(h:∀ call,exOp E call T {dst:=none,op:=o,type:=0,pos:=default,after:= #[],guard:=none} H=exOp E (fun _ _ _=>none) T {dst:=none,op:=o,type:=0,pos:=default,after:= #[],guard:=none} H):OP tk E T o H K=resP .go (exOp E (fun _ _ _=>none) T {dst:=none,op:=o,type:=0,pos:=default,after:= #[],guard:=none} H) K:=by
 unfold OP resP
 simp only[h,eq_iff_iff]
 exact⟨fun⟨_,h⟩=>h,fun h=>⟨0,h⟩⟩
variable{T:Tr Value}{H:Heap}{K:Tok→Value→Heap→Prop}
theorem Wv(x:Operand):OP .go E T (.move x) H K=optP .go (ev T x) fun t v=>K t v H:=by
 rw[fQ fun _=>rfl];simp only[exOp,fg,fR,optP]
theorem Ww(x:Operand):OP .go E T (.assign x) H K=optP .go (ev T x) fun t v=>K t v H:=by
 rw[fQ fun _=>rfl];simp only[exOp,fg,fR,optP]
theorem Wz(c a b:Operand):OP .go E T (.pick c a b) H K=optP .go (ev T c) fun t c=>asBoolP c (fun t=>optP t (ev T a) fun t v=>K t v H) (fun t=>optP t (ev T b) fun t v=>K t v H):=by
 rw[fQ fun _=>rfl];simp only[exOp,fg,optP]
 congr 1
 funext v
 congr 1
 cases v with
 |bool v=>cases v<;>simp only[asBoolP,yt,G9,fg,fR,optP]
 |_=>simp[asBoolP,resP]
theorem WA(ty:TypeId):OP .go E T (.alloc ty) H K=optP .go ((E.ty.get ty).bind (·.zero)) fun t z=>K t (ptr H.next 0) (H.newRow (cj z)):=by
 rw[fQ fun _=>rfl];simp only[exOp,fg,fR,Hb];simp only[optP,fg,fR]
theorem WB(ty:TypeId)(x:Operand):OP .go E T (.box ty x) H K=optP .go (ev T x) fun t v=>K t (ptr H.next 0) (H.newRow (cj v)):=by
 rw[fQ fun _=>rfl];simp only[exOp,fg,fR,optP]
theorem WC(ty:TypeId)(ps:Array (Nat×Operand)):OP .go E T (.build ty ps) H K=optP .go (gm E T ty ps.toList) fun t v=>K t v H:=by
 rw[fQ fun _=>rfl];simp only[exOp,fg,fR,optP]
theorem WD(ty:TypeId)(x:Operand):OP .go E T (.load ty x) H K=optP .go (ev T x) fun t a=>optP t (loadV E H ty a) fun t v=>K t v H:=by
 rw[fQ fun _=>rfl];simp only[exOp,fg,fR,optP]
theorem WE(ty:TypeId)(x y:Operand):OP .go E T (.store ty x y) H K=optP .go (ev T x) fun t a=>optP t (ev T y) fun t v=>optP t (tH E H ty a v) fun t H'=>K t undef H':=by
 rw[fQ fun _=>rfl];simp only[exOp,fg,fR,optP]
theorem WG(op:BinOp)(ty t':TypeId)(x y:Operand):OP .go E T (.binOp op ty x y t') H K=optP .go (ev T x) fun t a=>optP t (ev T y) fun t b=>optP t (binV E op ty x y a b) fun t v=>K t v H:=by
 rw[fQ fun _=>rfl];simp only[exOp,fg,fR,optP]
theorem WH(op:UnOp)(ty:TypeId)(x:Operand):OP .go E T (.unOp op ty x) H K=optP .go (ev T x) fun t a=>optP t (unV op a) fun t v=>K t v H:=by
 rw[fQ fun _=>rfl];simp only[exOp,fg,fR,optP]
theorem WI(s d:TypeId)(x:Operand):OP .go E T (.convert s d x) H K=optP .go (ev T x) fun t a=>optP t (nM E H s d a) fun t v=>K t v H:=by
 rw[fQ fun _=>rfl];simp only[exOp,fg,fR,optP]
theorem WJ(ty:TypeId)(x:Operand)(lo hi mx:Option Operand):OP .go E T (.slice ty x lo hi mx) H K=optP .go (ev T x) fun t x=>optP t (evO T lo) fun t lo=>optP t (evO T hi) fun t hi=>optP t (evO T mx) fun t mx=>optP t (sliceV E H ty x lo hi mx) fun t v=>K t v H:=by
 rw[fQ fun _=>rfl];simp only[exOp,fg,fR,optP]
theorem WK(ty:TypeId)(x:Operand)(f:Nat):OP .go E T (.fieldAddr ty x f) H K=optP .go (ev T x) fun t x=>optP t (fieldAddrV E ty x f) fun t v=>K t v H:=by
 rw[fQ fun _=>rfl];simp only[exOp,fg,fR,optP]
theorem WM(ty:TypeId)(x i:Operand):OP .go E T (.indexAddr ty x i) H K=optP .go (ev T x) fun t x=>optP t (ev T i) fun t i=>optP t (indexAddrV E ty x i) fun t v=>K t v H:=by
 rw[fQ fun _=>rfl];simp only[exOp,fg,fR,optP]
theorem WN(ty:TypeId)(x i:Operand):OP .go E T (.index ty x i) H K=optP .go (ev T x) fun t x=>optP t (ev T i) fun t i=>optP t (indexV E ty x i) fun t v=>K t v H:=by
 rw[fQ fun _=>rfl];simp only[exOp,fg,fR,optP]
theorem WO(ty:TypeId)(l c:Operand):OP .go E T (.makeSlice ty l c) H K=optP .go (ev T l) fun t l=>optP t (ev T c) fun t c=>resP t (makeSliceV E H ty l c) K:=by
 rw[fQ fun _=>rfl];simp only[exOp,fg,optP]
def tupV:Value→Nat→Option Value
 | .tuple vs,ix=>vs.toList[ix]?
 |_,_=>none
theorem WQ(vs:Array Value)(ix:Nat):tupV (.tuple vs) ix=vs.toList[ix]? :=wE rfl rfl
theorem WR(x:Operand)(ix:Nat):OP .go E T (.extract x ix) H K=optP .go (ev T x) fun t v=>optP t (tupV v ix) fun t v=>K t v H:=by
 rw[fQ fun _=>rfl];simp only[exOp,fg,optP]
 congr 1
 funext v
 congr 1
 cases v<;>simp only[tupV,fg,fR,optP]<;>simp[resP]
theorem DK(g:FuncId)(first captured:Array Operand):OP .go E T (.makeFunc (.func g) first captured) H K=optP .go (evs T first.toList) fun t fs=>optP t (evs T captured.toList) fun t cs=>K t (.func (.func g) fs.toArray cs.toArray) H:=by
 rw[fQ fun _=>rfl];simp only[exOp,fg,fR,optP]
def AH(E:Env)(H:Heap)(ty:TypeId)(x:Value):Option AObj:=(E.ty.get ty).bind fun i=>rangeO H i.desc x
theorem WT(ty:TypeId)(x:Operand):OP .go E T (.range ty x) H K=optP .go (ev T x) fun t v=>optP t (AH E H ty v) fun t o=>K t (ptr H.next 0) (H.add o):=by
 have e:∀ v,((E.ty.get ty).bind fun i=>(rangeO H i.desc v).bind fun o=>some (ptr H.next 0,H.add o))=(AH E H ty v).bind fun o=>some (ptr H.next 0,H.add o):=fun v=>by
  unfold AH
  cases E.ty.get ty<;>rfl
 rw[fQ fun _=>rfl];simp only[exOp,e,fg,fR,optP]
theorem WU(b:Builtin)(as:Array Operand)(ts:Array TypeId):OP .go E T (.call {callee:= .builtin b,args:=as,argTypes:=ts}) H K=optP .go (evs T as.toList) fun t vs=>resP t (builtinV E H b ts.toList vs) K:=by
 rw[fQ fun _=>rfl];simp only[exOp,fg,optP]
theorem WV(f:Operand)(as:Array Operand)(ts:Array TypeId):OP .go E T (.call {callee:= .value f,args:=as,argTypes:=ts}) H K=optP .go (evs T as.toList) fun t vs=>optP t (ev T f) fun t fv=>af E fv vs H (K .go):=by
 unfold OP af optP
 simp only[exOp,we,eq_iff_iff]
 constructor
 ·rintro⟨n,v,H',⟨as,h1,fv,h2,h3⟩,hk⟩
  exact⟨as,h1,fv,h2,n,v,H',h3,hk⟩
 ·rintro⟨as,h1,fv,h2,n,v,H',h3,hk⟩
  exact⟨n,v,H',⟨as,h1,fv,h2,h3⟩,hk⟩
theorem builtin_max(ts:List TypeId)(k k':IntKind)(a b:Int):builtinV E H .max ts [.int k a,.int k' b]=some (.int k (if a<b then b else a),H):=by
 have:(bif oC a b then b else a)=if a<b then b else a:=by
  rw[qG];by_cases h:a<b<;>simp[h]
 cases ts<;>simp only[builtinV,xP,wo,this]
theorem DL:evs T []=some []:=wE rfl rfl
theorem DM(x:Operand)(l:List Operand):evs T (x::l)=(ev T x).bind fun v=>(evs T l).bind fun vs=>some (v::vs):=wE rfl rfl
theorem oL(k:IntKind)(n:Int):fF k n=some (.int k (k.wrap n)):=by simp only[fF,rG,NK]
theorem mg{op:BinOp}(t:TypeId)(x y:Operand)(k k':IntKind)(a b:Int)(h1:(match op with| .shl| .shr=>false|_=>true)=true)(h2:sameKind k k'=true):binV E op t x y (.int k a) (.int k' b)=intOp op k a b:=by
 cases op<;>simp_all[binV]
theorem ly(k:IntKind):sameKind k k=true:=by cases k<;>rfl
theorem WW(t:TypeId)(x y:Operand)(k:IntKind)(a b:Int):binV E .add t x y (.int k a) (.int k b)=intOp .add k a b:=mg t x y k k a b rfl (ly k)
theorem WX(t:TypeId)(x y:Operand)(k:IntKind)(a b:Int):binV E .sub t x y (.int k a) (.int k b)=intOp .sub k a b:=mg t x y k k a b rfl (ly k)
theorem WY(t:TypeId)(x y:Operand)(k:IntKind)(a b:Int):binV E .mul t x y (.int k a) (.int k b)=intOp .mul k a b:=mg t x y k k a b rfl (ly k)
theorem WZ(t:TypeId)(x y:Operand)(k:IntKind)(a b:Int):binV E .quo t x y (.int k a) (.int k b)=intOp .quo k a b:=mg t x y k k a b rfl (ly k)
theorem W1(t:TypeId)(x y:Operand)(k:IntKind)(a b:Int):binV E .rem t x y (.int k a) (.int k b)=intOp .rem k a b:=mg t x y k k a b rfl (ly k)
theorem W2(t:TypeId)(x y:Operand)(k:IntKind)(a b:Int):binV E .and t x y (.int k a) (.int k b)=intOp .and k a b:=mg t x y k k a b rfl (ly k)
theorem W3(t:TypeId)(x y:Operand)(k:IntKind)(a b:Int):binV E .or t x y (.int k a) (.int k b)=intOp .or k a b:=mg t x y k k a b rfl (ly k)
theorem W4(t:TypeId)(x y:Operand)(k:IntKind)(a b:Int):binV E .xor t x y (.int k a) (.int k b)=intOp .xor k a b:=mg t x y k k a b rfl (ly k)
theorem W5(t:TypeId)(x y:Operand)(k:IntKind)(a b:Int):binV E .andNot t x y (.int k a) (.int k b)=intOp .andNot k a b:=mg t x y k k a b rfl (ly k)
theorem W6(t:TypeId)(x y:Operand)(k:IntKind)(a b:Int):binV E .eql t x y (.int k a) (.int k b)=intOp .eql k a b:=mg t x y k k a b rfl (ly k)
theorem W7(t:TypeId)(x y:Operand)(k:IntKind)(a b:Int):binV E .neq t x y (.int k a) (.int k b)=intOp .neq k a b:=mg t x y k k a b rfl (ly k)
theorem W8(t:TypeId)(x y:Operand)(k:IntKind)(a b:Int):binV E .lss t x y (.int k a) (.int k b)=intOp .lss k a b:=mg t x y k k a b rfl (ly k)
theorem W9(t:TypeId)(x y:Operand)(k:IntKind)(a b:Int):binV E .leq t x y (.int k a) (.int k b)=intOp .leq k a b:=mg t x y k k a b rfl (ly k)
theorem Xa(t:TypeId)(x y:Operand)(k:IntKind)(a b:Int):binV E .gtr t x y (.int k a) (.int k b)=intOp .gtr k a b:=mg t x y k k a b rfl (ly k)
theorem Xb(t:TypeId)(x y:Operand)(k:IntKind)(a b:Int):binV E .geq t x y (.int k a) (.int k b)=intOp .geq k a b:=mg t x y k k a b rfl (ly k)
theorem Xd(t:TypeId)(x y:Operand)(a b:Array Value):binV E .neq t x y (.agg a) (.agg b)=(eqV E (99+1) t (.agg a) (.agg b)).bind fun r=>some (.bool (!r)):=wE rfl rfl
theorem Xe(b:Bool):unV .not (.bool b)=some (.bool (!b)):=wE rfl rfl
theorem Xf(k:IntKind)(n:Int):unV .neg (.int k n)=some (.int k (k.wrap (0-n))):=by simp only[unV,oL]
theorem Xg(t:TypeId)(x y:Operand)(k k':IntKind)(a b:Int):binV E .shl t x y (.int k a) (.int k' b)=shiftOp .shl k a b:=wE rfl rfl
theorem Xh(t:TypeId)(x y:Operand)(k k':IntKind)(a b:Int):binV E .shr t x y (.int k a) (.int k' b)=shiftOp .shr k a b:=wE rfl rfl
theorem shift_shl(k:IntKind)(a b:Int)(h:0≤b):shiftOp .shl k a b=some (.int k (k.wrap (a*2^(min b.toNat k.bits)))):=by
 have:oC b 0=false:=by rw[qG];simpa using h
 simp only[shiftOp,this,wS,oL]
theorem shift_shr(k:IntKind)(a b:Int)(h:0≤b):shiftOp .shr k a b=some (.int k (a.fdiv (2^(min b.toNat k.bits)))):=by
 have:oC b 0=false:=by rw[qG];simpa using h
 simp only[shiftOp,this,wS,rG]
theorem Xi(k:IntKind)(a b:Int):intOp .add k a b=some (.int k (k.wrap (a+b))):=oL ..
theorem Xj(k:IntKind)(a b:Int):intOp .sub k a b=some (.int k (k.wrap (a-b))):=oL ..
theorem Xk(k:IntKind)(a b:Int):intOp .mul k a b=some (.int k (k.wrap (a*b))):=oL ..
theorem Xl(k:IntKind)(a b:Int)(h:b≠0):intOp .rem k a b=some (.int k (a.tmod b)):=by
 have:eqI b 0=false:=by rw[gI];simpa using h
 simp only[intOp,this,wS,rG]
theorem Xm(k:IntKind)(a b:Int)(h:b≠0):intOp .quo k a b=some (.int k (k.wrap (a.tdiv b))):=by
 have:eqI b 0=false:=by rw[gI];simpa using h
 simp only[intOp,this,wS,oL]
theorem Xn(k:IntKind)(a b:Int):intOp .eql k a b=some (.bool (decide (a=b))):=by simp only[intOp,gI];rfl
theorem Xo(k:IntKind)(a b:Int):intOp .neq k a b=some (.bool (!decide (a=b))):=by simp only[intOp,gI];rfl
theorem Xp(k:IntKind)(a b:Int):intOp .lss k a b=some (.bool (decide (a<b))):=by simp only[intOp,qG]
theorem Xq(k:IntKind)(a b:Int):intOp .leq k a b=some (.bool (decide (a≤b))):=by simp only[intOp,vP]
theorem Xr(k:IntKind)(a b:Int):intOp .gtr k a b=some (.bool (decide (b<a))):=by simp only[intOp,qG]
theorem Xs(k:IntKind)(a b:Int):intOp .geq k a b=some (.bool (decide (b≤a))):=by simp only[intOp,vP]
theorem aB(c:List Value):(H.newRow c).next=H.next+1:=ja H _
theorem aH(c:List Value):(H.newRow c).lo=H.lo:=vw H _
theorem aM(c:List Value)(r:Nat):(H.newRow c).objs.get r=bif r==H.next then some (.row c none true)else H.objs.get r:=by
 simp only[Heap.newRow,Heap.add,fb,Tr.force_eq]
 show(if r=H.next then some _ else H.objs r)=_
 by_cases h:r=H.next
 ·simp[h]
 ·have h':(r==H.next)=false:=by simpa using h
  rw[wI h,h'];rfl
def dH(E:Env)(t:TypeId):Option (Option Nat):=(E.ty.get t).bind fun i=>some (bif i.agg then some i.size else none)
def rowLoad(a:Option Nat)(o:Nat):AObj→Option Value
 | .row cells _ _=>match a with
   |none=>cells[o]?
   |some n=>(cut cells o n).bind fun l=>some (.agg l.toArray)
 |_=>none
theorem Xt(t:TypeId)(r o:Nat):loadV E H t (ptr r o)=(H.objs.get r).bind fun ob=>(dH E t).bind fun a=>rowLoad a o ob:=by
 simp only[loadV,ptr]
 cases H.objs.get r with
 |none=>rfl
 |some ob=>
  simp only[wo,dH]
  cases E.ty.get t with
  |none=>cases ob<;>rfl
  |some i=>cases ob<;>simp only[wo,rowLoad]<;>cases i.agg<;>rfl
theorem dB(l:List Value)(o n:Nat):cut l o n=if o+n≤l.length then some ((l.drop o).take n)else none:=by
 unfold cut
 by_cases h:o+n≤l.length
 ·rw[wF h,wP h];rfl
 ·rw[wI h]
  have:Nat.ble (o+n) l.length=false:=by rw[waK];intro hh;exact h (wan hh)
  rw[this];rfl
theorem Xu(cells:List Value)(g:Option (Nat×Nat))(t:Bool)(o:Nat):rowLoad none o (.row cells g t)=cells[o]? :=wE rfl rfl
theorem Xv(cells:List Value)(g:Option (Nat×Nat))(t:Bool)(o n:Nat):rowLoad (some n) o (.row cells g t)=(cut cells o n).bind fun l=>some (.agg l.toArray):=wE rfl rfl
theorem Xw(a:Array Value):cj (.agg a)=a.toList:=wE rfl rfl
theorem Xx(k:IntKind)(n:Int):cj (.int k n)=[.int k n]:=wE rfl rfl
theorem Xy(b:Bool):cj (.bool b)=[.bool b]:=wE rfl rfl
theorem Xz(a:Option Addr)(l c:Nat):cj (.slice a l c)=[.slice a l c]:=wE rfl rfl
variable{id:Nat}{mk:List Nat}{ro:Option Nat}{Q:Tok→Ex→Tr Value→List Nat→Heap→Prop}{all:List Oper}{k:Tok→Tr Value→Prop}
theorem wp_skip{p:Pf (Code.skip)}:wp .go E sz .skip p T mk ro H Q=Q .go .normal T mk H:=wE rfl rfl
theorem wp_region(ops:Array Oper){p:Pf (Code.region id ops false)}:wp .go E sz (.region id ops false) p T mk ro H Q=wpOps .go E ops.toList pf sz ops.toList pf T H fun t T' H'=>Q t .normal T' mk H':=wE rfl rfl
theorem XA(ops:Array Oper){p:Pf (Code.region id ops true)}:wp .go E sz (.region id ops true) p T mk ro H Q=gj E sz (.region id ops true) T mk ro H (Q .go):=wE rfl rfl
theorem XB(a b c:Code){p:Pf (Code.seq (Code.seq a b) c)}:wp .go E sz (.seq (.seq a b) c) p T mk ro H Q=wp .go E sz (.seq a (.seq b c)) pf T mk ro H Q:=by
 show wp .go E sz a pf T mk ro H _=wp .go E sz a pf T mk ro H _
 congr 1
 funext t ex T' bs H'
 cases ex<;>rfl
theorem XC(ops:Array Oper)(d:Bool)(b:Code){p:Pf (Code.seq (Code.region id ops d) b)}:wp .go E sz (.seq (.region id ops d) b) p T mk ro H Q=wp .go E sz (.region id ops d) pf T mk ro H fun t ex T' bs H'=>rV t ex (fun t=>wp t E sz b pf T' bs ro H' Q) fun t e=>Q t e T' bs H':=wE rfl rfl
theorem XD(x:Operand)(y z:Code)(b:Code){p:Pf (Code.seq (Code.cond x y z) b)}:wp .go E sz (.seq (.cond x y z) b) p T mk ro H Q=wp .go E sz (.cond x y z) pf T mk ro H fun t ex T' bs H'=>rV t ex (fun t=>wp t E sz b pf T' bs ro H' Q) fun t e=>Q t e T' bs H':=wE rfl rfl
theorem XE(y:Code)(b:Code){p:Pf (Code.seq (Code.block id y) b)}:wp .go E sz (.seq (.block id y) b) p T mk ro H Q=wp .go E sz (.block id y) pf T mk ro H fun t ex T' bs H'=>rV t ex (fun t=>wp t E sz b pf T' bs ro H' Q) fun t e=>Q t e T' bs H':=wE rfl rfl
theorem wp_cond(x:Operand)(a b:Code){p:Pf (Code.cond x a b)}:wp .go E sz (.cond x a b) p T mk ro H Q=optP .go (ev T x) fun t v=>asBoolP v (fun t=>wp t E sz a pf T mk ro H Q) (fun t=>wp t E sz b pf T mk ro H Q):=wE rfl rfl
theorem wp_block(a:Code){p:Pf (Code.block id a)}:wp .go E sz (.block id a) p T mk ro H Q=wp .go E sz a pf T mk ro H fun t ex T' bs H'=>exP t id ex (fun t=>Q t .normal T' bs H') fun t e=>Q t e T' bs H':=wE rfl rfl
theorem wp_exit{p:Pf (Code.exit id)}:wp .go E sz (.exit id) p T mk ro H Q=Q .go (.exit id) T mk H:=wE rfl rfl
theorem wp_ret{p:Pf (Code.ret)}:wp .go E sz .ret p T mk ro H Q=Q .go .ret T mk H:=wE rfl rfl
theorem XF(c:Code){p:Pf (Code.loop c)}:wp .go E sz (.loop c) p T mk ro H Q=gj E sz (.loop c) T mk ro H (Q .go):=wE rfl rfl
theorem XG(f:Operand)(ps:Array Tmp)(a b:Code){p:Pf (Code.rangeFunc f ps a b)}:wp .go E sz (.rangeFunc f ps a b) p T mk ro H Q=gj E sz (.rangeFunc f ps a b) T mk ro H (Q .go):=wE rfl rfl
theorem XH{K:Tok→Tr Value→Heap→Prop}{p1:Pf all}{p2:Pf ([]:List Oper)}:wpOps .go E all p1 sz [] p2 T H K=K .go T H:=wE rfl rfl
theorem wpOps_cons{K:Tok→Tr Value→Heap→Prop}(d:Option Tmp)(o:Op)(ty:TypeId)(p:String)(a:Array Edge)(rest:List Oper){p1:Pf all}{p2:Pf (⟨d,o,ty,p,a,none⟩::rest)}:wpOps .go E all p1 sz (⟨d,o,ty,p,a,none⟩::rest) p2 T H K=OP .go E T o H fun t v H'=>jn t sz T d v fun t T'=>wpOps t E all pf sz rest pf T' H' K:=by
 simp only[wpOps,Hc,AE,yt]
theorem XI{K:Tok→Tr Value→Heap→Prop}(d:Option Tmp)(o:Op)(ty:TypeId)(p:String)(a:Array Edge)(j:Nat)(w:Bool)(rest:List Oper){p1:Pf all}{p2:Pf (⟨d,o,ty,p,a,some (j,w)⟩::rest)}:wpOps .go E all p1 sz (⟨d,o,ty,p,a,some (j,w)⟩::rest) p2 T H K=
  optP .go (guardV T ((all[j]?).bind (·.dst)) w) fun _ b=>boolP b (fun t=>OP t E T o H fun t v H'=>jn t sz T d v fun t T'=>wpOps t E all pf sz rest pf T' H' K) (fun t=>jn t sz T d undef fun t T'=>wpOps t E all pf sz rest pf T' H K):=by
 simp only[wpOps,Of]
theorem XJ(d:Tmp)(v:Value):jn .go sz T (some d) v k=(d<sz∧k .go (T.set d v)):=wE rfl rfl
theorem XK(v:Value):jn .go sz T none v k=k .go T:=wE rfl rfl
theorem XL(P:Tok→Prop)(Q:Tok→Ex→Prop):rV .go .normal P Q=P .go:=wE rfl rfl
theorem XM(P:Tok→Prop)(Q:Tok→Ex→Prop):rV .go .ret P Q=Q .go .ret:=wE rfl rfl
theorem XN(i:Nat)(P:Tok→Prop)(Q:Tok→Ex→Prop):rV .go (.exit i) P Q=Q .go (.exit i):=wE rfl rfl
theorem XO(P:Tok→Prop)(Q:Tok→Ex→Prop):exP .go id .normal P Q=Q .go .normal:=wE rfl rfl
theorem XP(P:Tok→Prop)(Q:Tok→Ex→Prop):exP .go id .ret P Q=Q .go .ret:=wE rfl rfl
theorem XQ(i:Nat)(P:Tok→Prop)(Q:Tok→Ex→Prop):exP .go id (.exit i) P Q=bif i==id then P .go else Q .go (.exit i):=by
 by_cases h:i=id<;>simp[exP,h]
theorem XR(P:Tok→Prop):yn .go .normal P=P .go:=wE rfl rfl
theorem XS(P:Tok→Prop):yn .go .ret P=P .go:=wE rfl rfl
theorem XT:resultsV E H T []=some []:=wE rfl rfl
theorem results_tmp(t:Tmp)(l:List ResultVar):resultsV E H T (.tmp t::l)=(T.get t).bind fun v=>(resultsV E H T l).bind fun r=>some (v::r):=wE rfl rfl
theorem XU(a:Tmp)(t:TypeId)(l:List ResultVar):resultsV E H T (.cell a t::l)=(T.get a).bind fun a=>(loadV E H t a).bind fun v=>(resultsV E H T l).bind fun r=>some (v::r):=wE rfl rfl
theorem XV(v:Value):jH [v]=v:=wE rfl rfl
theorem XW:jH []= .tuple #[]:=wE rfl rfl
theorem XX(a b:Value):jH [a,b]= .tuple #[a,b]:=wE rfl rfl
theorem XY(a b c:Value):jH [a,b,c]= .tuple #[a,b,c]:=wE rfl rfl
def Heap.cd(H:Heap)(n:Nat):Heap:={objs:=H.objs,grps:=H.grps,next:=H.next,lo:=n}
def wpDraw(_:Tok)(E:Env)(all:List Oper)(_:Pf all)(sz:Nat):(l:List Oper)→Pf l→List Info→Tr Value→Heap→(Tok→Tr Value→Heap→Prop)→Prop
 |[],_,_,T,H,K=>K .go T H
 |o::rest,_,i::bf,T,H,K=>
  optP .go (wantedA T all o) fun _ b=>boolP b (fun t=>storeApart E T H o.op i.apart=true∧OP t E T o.op (bif i.grow then H.cd H.next else H) fun t v H'=>keepOk E T H' i.cz=true∧jn t sz T o.dst v fun t T'=>wpDraw t E all pf sz rest pf bf T' (H'.cd H.lo) K)
   (fun t=>jn t sz T o.dst undef fun t T'=>wpDraw t E all pf sz rest pf bf T' H K)
 |_::_,_,[],_,_,_=>False
theorem He{all:List Oper}:∀ {t:Tok} {l:List Oper} {p1:Pf all} {p2:Pf l} {bf:List Info} {T:Tr Value} {H:Heap} {K:Tok→Tr Value→Heap→Prop},wpDraw t E all p1 sz l p2 bf T H K→∃ n T' H',exDraw E (fS E (run E n)) all sz l bf T H=some (T',H')∧K .go T' H'
 |_,[],_,_,_,T,H,K,h=>⟨0,T,H,by simp[exDraw],by simpa[wpDraw]using h⟩
 |_,o::l,_,_,[],T,H,K,h=>by simp[wpDraw]at h
 |_,o::l,_,_,i::bf,T,H,K,h=>by
  obtain⟨b,hb,hk⟩:=h
  have put:∀ {v:Value} {H1:Heap},(jn .go sz T o.dst v fun t T'=>wpDraw t E all pf sz l pf bf T' H1 K)→∃ T1,gW sz T o.dst v=some T1∧∃ n T' H',exDraw E (fS E (run E n)) all sz l bf T1 H1=some (T',H')∧K .go T' H':=by
   intro v H1 hp
   unfold jn at hp
   unfold gW
   cases hd:o.dst with
   |none=>rw[hd]at hp;exact⟨T,rfl,He hp⟩
   |some d=>
    rw[hd]at hp
    have hb:Nat.blt d sz=true:=wP hp.1
    exact⟨T.set d v,by simp[hb,Tr.force_eq],He hp.2⟩
  cases b with
  |true=>
   obtain⟨cK,n1,v,H1,h1,G5,h2⟩:=hk.1 rfl
   obtain⟨T1,h3,n2,T',H',h4,h5⟩:=put h2
   refine⟨max n1 n2,T',H',?_,h5⟩
   have e1:exOp E (fS E (run E (max n1 n2))) T o {objs:=H.objs,grps:=H.grps,next:=H.next,lo:=bif i.grow then H.next else H.lo}=some (v,H1):=by
    rw[Ob (o:=o) (o':={dst:=none,op:=o.op,type:=0,pos:=default,after:= #[],guard:=none}) rfl]
    have:(bif i.grow then H.cd H.next else H)={objs:=H.objs,grps:=H.grps,next:=H.next,lo:=bif i.grow then H.next else H.lo}:=by cases i.grow<;>rfl
    rw[←this]
    exact Di (vG (ku (wbP ..))) h1
   simp only[exDraw,hb,cK,wai,e1,wo,G5,h3,ub]
   exact Dj (vG (ku (wbE ..))) h4
  |false=>
   obtain⟨T1,h3,n2,T',H',h4,h5⟩:=put (hk.2 rfl)
   refine⟨n2,T',H',?_,h5⟩
   simp only[exDraw,hb,wo,h3]
   exact h4
def freeIx(b:List Nat)(i:Nat):List Oper→Nat→List Nat
 |[],_=>[]
 |p::l,n=>bif Nat.beq n i||ordered b i n|| !isLoad (kindOf p.op)then freeIx b i l (n+1)else n::freeIx b i l (n+1)
def apartOf(all:List Oper):List Nat→List Op
 |[]=>[]
 |k::l=>match all[k]? with
  |some o=>o.op::apartOf all l
  |none=>apartOf all l
abbrev Ix:=Bool×List Nat×List (TypeId×Tmp×Tmp)
def AI(ops:List Oper)(b:List Nat)(n i:Nat):List Oper→Nat→List Nat
 |[],_=>[]
 |p::l,k=>bif Nat.blt k i&&uX n k&&oD ops b n k p&& !ordered b k i then k::AI ops b n i l (k+1)else AI ops b n i l (k+1)
def ixAt(ops:List Oper)(b:List Nat)(n i:Nat)(o:Oper):Option Ix:=
 bif edgesOk n i o.after.toList&&tmpsOk (maskT ((match o.dst with|some d=>[d]|none=>[])++looksOf ops o)) b i ops 0 then
  match kindOf o.op with
  | .store=>bif effOk true b i ops 0 then some (false,freeIx b i ops 0,[])else none
  | .call=>bif effOk false b i ops 0 then(match FA ops b n i with
    |some ks=>some (false,[],ks)
    |none=>bif oD ops b n i o then some (false,freeIx b i ops 0,[])else some (!(freeIx b i ops 0).isEmpty,[],[]))else none
  | .load=>some (false,AI ops b n i ops 0,[])
  |_=>some (false,[],[])
 else none
def AJ(ops:List Oper)(b:List Nat)(n:Nat):List Oper→Nat→Option (List Ix)
 |[],_=>some []
 |o::l,i=>(ixAt ops b n i o).bind fun x=>(AJ ops b n l (i+1)).bind fun r=>some (x::r)
def DN(ops:Array Oper):Option (List Ix):=
 bif gcOk ops.toList ops.size 20 0 then AJ ops.toList (Region.before ops).toList ops.size ops.toList 0 else none
def oh(all:List Oper)(p:Ix):Info:=⟨p.1,apartOf all p.2.1,p.2.2⟩
theorem AK{b:List Nat}{i:Nat}{all:List Oper}:∀ (l:List Oper) (n:Nat),all.drop n=l→nO b i l n=apartOf all (freeIx b i l n)
 |[],_,_=>rfl
 |p::l,n,h=>by
  have hn:all[n]? =some p:=by
   have:=congrArg (fun l=>l[0]?) h
   simpa using this
  have hl:all.drop (n+1)=l:=by rw[←wbZ,h];rfl
  simp only[nO,freeIx]
  cases(Nat.beq n i||ordered b i n|| !isLoad (kindOf p.op))with
  |true=>exact AK l (n+1) hl
  |false=>
   simp only[wS,apartOf,hn]
   rw[AK l (n+1) hl]
theorem Hg{all:List Oper}(ops:List Oper)(b:List Nat)(n i:Nat):∀ (l:List Oper) (k:Nat),all.drop k=l→rI ops b n i l k=apartOf all (AI ops b n i l k)
 |[],_,_=>rfl
 |p::l,k,h=>by
  have hn:all[k]? =some p:=by
   have:=congrArg (fun l=>l[0]?) h
   simpa using this
  have hl:all.drop (k+1)=l:=by rw[←wbZ,h];rfl
  simp only[rI,AI]
  cases(Nat.blt k i&&uX n k&&oD ops b n k p&& !ordered b k i)with
  |false=>exact Hg ops b n i l (k+1) hl
  |true=>
   simp only[wai,apartOf,hn]
   rw[Hg ops b n i l (k+1) hl]
theorem XZ{all:List Oper}:∀ (l:List Nat),(∀k∈l,(all[k]?).isSome=true)→(apartOf all l).isEmpty=l.isEmpty
 |[],_=>rfl
 |k::l,h=>by
  obtain⟨o,ho⟩:=wci.1 (h k (wW ..))
  simp[apartOf,ho]
theorem Hh{b:List Nat}{i:Nat}{all:List Oper}:∀ (l:List Oper) (n:Nat),all.drop n=l→∀ k∈freeIx b i l n,(all[k]?).isSome=true
 |[],_,_,k,hk=>by simp[freeIx]at hk
 |p::l,n,h,k,hk=>by
  have hn:all[n]? =some p:=by
   have:=congrArg (fun l=>l[0]?) h
   simpa using this
  have hl:all.drop (n+1)=l:=by rw[←wbZ,h];rfl
  simp only[freeIx]at hk
  cases hc:(Nat.beq n i||ordered b i n|| !isLoad (kindOf p.op))with
  |true=>rw[hc]at hk;exact Hh l (n+1) hl k hk
  |false=>
   rw[hc]at hk
   rcases wad.1 hk with rfl|hk
   ·rw[hn];rfl
   ·exact Hh l (n+1) hl k hk
theorem X0(ops:List Oper)(b:List Nat)(n i:Nat)(o:Oper):infoAt ops b n i o=(ixAt ops b n i o).map (oh ops):=by
 unfold infoAt ixAt
 cases(edgesOk n i o.after.toList&&tmpsOk (maskT ((match o.dst with|some d=>[d]|none=>[])++looksOf ops o)) b i ops 0)with
 |false=>rfl
 |true=>
  simp only[wai]
  cases kindOf o.op with
  |store=>
   simp only
   cases effOk true b i ops 0<;>simp only[wai,wS,waE,wcH,oh]
   rw[AK (all:=ops) ops 0 rfl]
  |call=>
   simp only
   cases effOk false b i ops 0<;>simp only[wai,wS,wcH]
   cases FA ops b n i<;>simp only[waE,oh,apartOf]
   cases oD ops b n i o<;>simp only[wai,wS,waE,oh,apartOf]
   ·rw[AK (all:=ops) ops 0 rfl,XZ _ (Hh ops 0 rfl)]
   ·rw[AK (all:=ops) ops 0 rfl]
  |load=>simp only[waE,oh];rw[Hg (all:=ops) ops b n i ops 0 rfl]
  |_=>rfl
theorem Og(ops:List Oper)(b:List Nat)(n:Nat):∀ (l:List Oper) (i:Nat),uY ops b n l i=(AJ ops b n l i).map (List.map (oh ops))
 |[],_=>rfl
 |o::l,i=>by
  simp only[uY,AJ,X0,Og ops b n l (i+1)]
  cases ixAt ops b n i o with
  |none=>rfl
  |some x=>
   simp only[waE,wo]
   cases AJ ops b n l (i+1)<;>rfl
theorem Ya(ops:Array Oper):xQ ops=(DN ops).map (List.map (oh ops.toList)):=by
 unfold xQ DN
 cases gcOk ops.toList ops.size 20 0 with
 |false=>rfl
 |true=>exact Og ..
theorem ic{ops:Array Oper}{Q:Ex→Tr Value→List Nat→Heap→Prop}(ix:List Ix)(hi:DN ops=some ix)(h:wpDraw .go E ops.toList pf sz ops.toList pf (ix.map (oh ops.toList)) T H fun _ T' H'=>Q .normal T' mk H'):gj E sz (.region id ops true) T mk ro H Q:=by
 obtain⟨n,T',H',h1,h2⟩:=He h
 refine⟨n+1,.normal,T',mk,H',?_,h2⟩
 have l1:Maps.aX sz=true:=rfl
 have l2:Maps.aX H'.next=true:=rfl
 have eh:xQ ops=some (ix.map (oh ops.toList)):=by rw[Ya,hi];rfl
 simp only[run,runWith,rJ,l1,wa7,wS,eh,wo,h1,l2,wai]
theorem Yb(all:List Oper):List.map (oh all) []=[]:=wE rfl rfl
theorem Yc(all:List Oper)(g:Bool)(ix:List Nat)(ks:List (TypeId×Tmp×Tmp))(l:List Ix):List.map (oh all) ((g,ix,ks)::l)=⟨g,apartOf all ix,ks⟩::List.map (oh all) l:=wE rfl rfl
theorem Ye(all:List Oper):apartOf all []=[]:=wE rfl rfl
theorem Yf(all:List Oper)(k:Nat)(l:List Nat):apartOf all (k::l)=match all[k]? with
  |some o=>o.op::apartOf all l
  |none=>apartOf all l:=wE rfl rfl
theorem Yg{K:Tok→Tr Value→Heap→Prop}(is:List Info){p1:Pf all}{p2:Pf ([]:List Oper)}:wpDraw .go E all p1 sz [] p2 is T H K=K .go T H:=by simp only[wpDraw]
theorem Yh{K:Tok→Tr Value→Heap→Prop}(d:Option Tmp)(o:Op)(ty:TypeId)(p:String)(a:Array Edge)(g:Bool)(ap:List Op)(is:List Info)(rest:List Oper){p1:Pf all}{p2:Pf (⟨d,o,ty,p,a,none⟩::rest)}:wpDraw .go E all p1 sz (⟨d,o,ty,p,a,none⟩::rest) p2 (⟨g,ap,[]⟩::is) T H K=
  (storeApart E T H o ap=true∧OP .go E T o (bif g then H.cd H.next else H) fun t v H'=>jn t sz T d v fun t T'=>wpDraw t E all pf sz rest pf is T' (H'.cd H.lo) K):=by
 simp only[wpDraw,keepOk,wbT,Hc,AE,yt]
theorem Yi{K:Tok→Tr Value→Heap→Prop}(d:Option Tmp)(o:Op)(ty:TypeId)(p:String)(a:Array Edge)(j:Nat)(w g:Bool)(ap:List Op)(is:List Info)(rest:List Oper){p1:Pf all}{p2:Pf (⟨d,o,ty,p,a,some (j,w)⟩::rest)}:wpDraw .go E all p1 sz (⟨d,o,ty,p,a,some (j,w)⟩::rest) p2 (⟨g,ap,[]⟩::is) T H K=
  optP .go (guardV T ((all[j]?).bind (·.dst)) w) fun _ b=>boolP b (fun t=>storeApart E T H o ap=true∧OP t E T o (bif g then H.cd H.next else H) fun t v H'=>jn t sz T d v fun t T'=>wpDraw t E all pf sz rest pf is T' (H'.cd H.lo) K)
   (fun t=>jn t sz T d undef fun t T'=>wpDraw t E all pf sz rest pf is T' H K):=by
 simp only[wpDraw,keepOk,wbT,Of]
theorem Yj{K:Tok→Tr Value→Heap→Prop}(d:Option Tmp)(o:Op)(ty:TypeId)(p:String)(a:Array Edge)(g:Bool)(ap:List Op)(k:TypeId×Tmp×Tmp)(ks:List (TypeId×Tmp×Tmp))(is:List Info)(rest:List Oper){p1:Pf all}{p2:Pf (⟨d,o,ty,p,a,none⟩::rest)}:wpDraw .go E all p1 sz (⟨d,o,ty,p,a,none⟩::rest) p2 (⟨g,ap,k::ks⟩::is) T H K=
  (storeApart E T H o ap=true∧OP .go E T o (bif g then H.cd H.next else H) fun t v H'=>keepOk E T H' (k::ks)=true∧jn t sz T d v fun t T'=>wpDraw t E all pf sz rest pf is T' (H'.cd H.lo) K):=by
 simp only[wpDraw,Hc,AE,yt]
theorem Yk{n:Nat}(h:H.lo=n):H.cd n=H:=by subst h;rfl
theorem K1(a b:Nat):(H.cd a).cd b=H.cd b:=wE rfl rfl
theorem aE(a:Nat):(H.cd a).next=H.next:=wE rfl rfl
theorem aK(a:Nat):(H.cd a).lo=a:=wE rfl rfl
theorem aL(a:Nat):(H.cd a).objs=H.objs:=wE rfl rfl
theorem Cr(a:Nat):(H.cd a).grps=H.grps:=wE rfl rfl
theorem aR(c:List Value)(a:Nat):(H.newRow c).cd a=(H.cd a).newRow c:=by
 simp only[Heap.newRow,Heap.add,fb,Tr.force_eq,Heap.cd]
theorem Yl(o:Op):storeApart E T H o []=true:=wE rfl rfl
end
def zeroOf(E:Env)(t:TypeId):Option Value:=(E.ty.get t).bind (·.zero)
theorem au{a b:Nat}(h:a≠b):(a==b)=false:=by simpa using h
theorem cB{a b:Nat}(h:a=b):(a==b)=true:=by simpa using h
section
variable{E:Env}{sz:Nat}{T:Tr Value}{H:Heap}
theorem Oh(i:Int)(n:Nat):at? i n=if 0≤i∧i<n then some i.toNat else none:=by
 cases i with
 |ofNat i=>
  simp only[at?]
  by_cases h:i<n
  ·rw[show Nat.blt i n=true from wP h,wai,wF ⟨wco i,Int.ofNat_lt.2 h⟩];rfl
  ·rw[show Nat.blt i n=false from waK.2 fun hh=>h (wan hh),wS,wI (fun hh=>h (Int.ofNat_lt.1 hh.2))]
 |negSucc i=>simp only[at?];rw[wI (fun hh=>by have:=hh.1;simp at this)]
theorem to_eq(i:Int)(n:Nat):to? i n=if 0≤i∧i≤n then some i.toNat else none:=by
 cases i with
 |ofNat i=>
  simp only[to?]
  by_cases h:i≤n
  ·rw[wP h,wai,wF ⟨wco i,Int.ofNat_le.2 h⟩];rfl
  ·rw[show Nat.ble i n=false from waK.2 fun hh=>h (wan hh),wS,wI (fun hh=>h (Int.ofNat_le.1 hh.2))]
 |negSucc i=>simp only[to?];rw[wI (fun hh=>by have:=hh.1;simp at this)]
theorem bI{i n:Nat}(h:i<n):at? (i:Int) n=some i:=by
 rw[Oh,wF ⟨wco i,Int.ofNat_lt.2 h⟩];rfl
theorem SC{i:Int}{n:Nat}(h0:0≤i)(h:i<n):at? i n=some i.toNat:=by rw[Oh,wF ⟨h0,h⟩]
theorem named{α:Type}(x:α){P:Prop}(h:∀ y,y=x→P):P:=h x rfl
def Hid(p:Prop):Prop:=p
def Heap.setRow(H:Heap)(r:Nat)(cells:List Value):Heap:={objs:=H.objs.set r (.row cells none true),grps:=H.grps,next:=H.next,lo:=H.lo}
theorem aA(c:List Value)(r x:Nat):(H.setRow r c).objs.get x=bif x==r then some (.row c none true)else H.objs.get x:=by
 show(if x=r then some _ else H.objs x)=_
 by_cases h:x=r
 ·simp[h]
 ·have h':(x==r)=false:=by simpa using h
  rw[wI h,h'];rfl
theorem aJ(c:List Value)(r:Nat):(H.setRow r c).next=H.next:=wE rfl rfl
theorem aI(c:List Value)(r:Nat):(H.setRow r c).lo=H.lo:=wE rfl rfl
theorem aO(c:List Value)(r:Nat):(H.setRow r c).grps=H.grps:=wE rfl rfl
theorem aP(c:List Value)(r a:Nat):(H.setRow r c).cd a=(H.cd a).setRow r c:=wE rfl rfl
theorem aN(c:List Value):(H.newRow c).grps=H.grps:=zM H _
def rowWrite(H:Heap)(r o:Nat)(new:List Value):Option AObj→Option Heap
 |some (.row cells none true)=>if H.lo≤r∧new.all isCell=true∧o+new.length≤cells.length then some (H.setRow r (over new o cells))else none
 |_=>none
theorem Ym{r o:Nat}{new cells:List Value}(hr:H.objs.get r=some (.row cells none true)):H.write r o new=rowWrite H r o new (some (.row cells none true)):=by
 simp only[rowWrite,Heap.write,hr,Tr.force_eq]
 by_cases h1:H.lo≤r
 ·by_cases h2:new.all isCell=true
  ·by_cases h3:o+new.length≤cells.length
   ·rw[wF ⟨h1,h2,h3⟩,wP h1,h2,wP h3];rfl
   ·rw[wI fun h=>h3 h.2.2,wP h1,h2,show Nat.ble (o+new.length) cells.length=false from waK.2 fun hh=>h3 (wan hh)];rfl
  ·rw[wI fun h=>h2 h.2.1,wP h1,waK.2 h2];rfl
 ·rw[wI fun h=>h1 h.1,show Nat.ble H.lo r=false from waK.2 fun hh=>h1 (wan hh)];rfl
def Heap.xN(H:Heap)(r o:Nat)(new:List Value):Option Heap:=H.write r o new
def writeV(H:Heap)(r o:Nat)(new:List Value):Option AObj→Option Heap
 |some (.row cells none true)=>bif decide (H.lo≤r)&&new.all isCell&&decide (o+new.length≤cells.length)then some (H.setRow r (over new o cells))else none
 |some (.row _ (some _) true)=>H.xN r o new
 |_=>none
theorem AL(r o:Nat)(new:List Value):H.write r o new=writeV H r o new (H.objs.get r):=by
 cases h:H.objs.get r with
 |none=>
  simp only[writeV,Heap.write,h]
  exact wbB ..
 |some ob=>
  match ob,h with
  | .row cells none true,h=>
    rw[Ym h]
    simp only[writeV,rowWrite]
    by_cases h1:H.lo≤r<;>by_cases h2:new.all isCell=true<;>by_cases h3:o+new.length≤cells.length<;>simp[h1,h2,h3]
  | .row cells none false,h=>simp only[writeV,Heap.write,h];exact wbB ..
  | .row cells (some g) true,h=>rfl
  | .row cells (some g) false,h=>simp only[writeV,Heap.write,h];exact wbB ..
  | .map _,h=>simp only[writeV,Heap.write,h];exact wbB ..
  | .loop ..,h=>simp only[writeV,Heap.write,h];exact wbB ..
  | .defers,h=>simp only[writeV,Heap.write,h];exact wbB ..
  | .iter ..,h=>simp only[writeV,Heap.write,h];exact wbB ..
  | .pj ..,h=>simp only[writeV,Heap.write,h];exact wbB ..
  | .lQ ..,h=>simp only[writeV,Heap.write,h];exact wbB ..
  | .lO ..,h=>simp only[writeV,Heap.write,h];exact wbB ..
theorem Yn(r o:Nat)(new cells:List Value):writeV H r o new (some (.row cells none true))=bif decide (H.lo≤r)&&new.all isCell&&decide (o+new.length≤cells.length)then some (H.setRow r (over new o cells))else none:=wE rfl rfl
theorem Yo{a b:Nat}(h:a≤b):decide (a≤b)=true:=by simpa using h
theorem Hi(k:IntKind)(n:Int):isCell (.int k n)=true:=wE rfl rfl
theorem Yp(b:Bool):isCell (.bool b)=true:=wE rfl rfl
theorem Yq(a:Option Addr)(l c:Nat):isCell (.slice a l c)=true:=wE rfl rfl
theorem Yr(r o:Nat):isCell (ptr r o)=true:=wE rfl rfl
theorem Ys{t r o:Nat}{v:Value}:tH E H t (ptr r o) v=(E.size t).bind fun n=>bif (cj v).length==n then H.write r o (cj v)else none:=by
 simp only[tH,ptr]
 congr 1;funext n
 have:Nat.beq (cj v).length n=((cj v).length==n):=by
  by_cases h:(cj v).length=n
  ·rw[h,wbc];simp
  ·rw[au h,waK];intro hh;exact h (wbw hh)
 rw[this]
theorem GU(new l:List Value):over new 0 l=new++l.drop new.length:=wE rfl rfl
theorem GV(new:List Value)(o:Nat)(x:Value)(l:List Value):over new (o+1) (x::l)=x::over new o l:=wE rfl rfl
theorem cC(a b:Nat):Nat.ble a b=decide (a≤b):=by
 by_cases h:a≤b
 ·rw[wP h];simp[h]
 ·rw[show Nat.ble a b=false from waK.2 fun hh=>h (wan hh)];simp[h]
theorem lM(a b:Nat):Nat.beq a b=decide (a=b):=by
 by_cases h:a=b
 ·rw[h,wbc];simp
 ·rw[show Nat.beq a b=false from waK.2 fun hh=>h (wbw hh)];simp[h]
def Oi(o n:Nat):AObj→Option (List Value)
 | .row cells _ _=>cut cells o n
 |_=>none
theorem Ax(cells:List Value)(g:Option (Nat×Nat))(t:Bool)(o n:Nat):Oi o n (.row cells g t)=cut cells o n:=wE rfl rfl
theorem Aw(n r o l c:Nat):cellsOf H n (.slice (some ⟨r,o,none⟩) l c)=(H.objs.get r).bind (Oi o n):=by
 simp only[cellsOf]
 cases H.objs.get r with
 |none=>rfl
 |some ob=>cases ob<;>rfl
theorem NI(n l c:Nat):cellsOf H n (.slice none l c)=if n=0 then some []else none:=by
 simp only[cellsOf,lM]
 by_cases h:n=0<;>simp[h]
def se(E:Env)(T:Tr Value)(H:Heap)(t:TypeId)(len:Nat)(parts:List (Nat×Operand)):Option (Value×Heap):=
 (E.ty.get t).bind fun i=>
  match i.desc with
  | .slice e=>(E.ty.get e).bind fun j=>j.zero.bind fun z=>
    bif !Nat.beq (cj z).length j.size|| !Nat.ble (len*j.size) 10000000||Nat.beq j.size 0 then none else
    (evParts T (fun k=>some (k*j.size,j.size)) parts).bind fun ps=>(fillV (dr (cj z) len) ps).bind fun l=>
     some (.slice (some ⟨H.next,0,none⟩) len len,H.newRow l)
  |_=>none
theorem Yt{K:Tok→Value→Heap→Prop}(ty:TypeId)(len:Nat)(ps:Array (Nat×Operand)):OP .go E T (.buildSlice ty len ps) H K=resP .go (se E T H ty len ps.toList) K:=by
 rw[fQ fun _=>rfl];rfl
theorem Yu(pl:Nat→Option (Nat×Nat)):evParts T pl []=some []:=wE rfl rfl
theorem Yv(pl:Nat→Option (Nat×Nat))(i:Nat)(x:Operand)(l:List (Nat×Operand)):evParts T pl ((i,x)::l)=(pl i).bind fun p=>(ev T x).bind fun v=>(evParts T pl l).bind fun r=>some ((p.1,p.2,v)::r):=wE rfl rfl
theorem Yw(cells:List Value):fillV cells []=some cells:=wE rfl rfl
theorem Yx(cells:List Value)(off size:Nat)(v:Value)(rest:List (Nat×Nat×Value)):fillV cells ((off,size,v)::rest)=bif decide ((cj v).length=size)&&decide (off+size≤cells.length)then fillV (over (cj v) off cells) rest else none:=by
 simp only[fillV,jD,lM,cC]
theorem eF(z:List Value):dr z 0=[]:=wE rfl rfl
theorem iN(z:List Value)(n:Nat):dr z (n+1)=z++dr z n:=wE rfl rfl
theorem Yy(tG:TypeId→Value→Value→Option Bool)(xs ys:List Value):eqFields E tG xs ys []=some true:=wE rfl rfl
def Oj:Bool→Option Bool→Option Bool
 |true,o=>o
 |false,_=>some false
theorem Yz(a b:Bool):Oj a (some b)=some (a&&b):=by cases a<;>rfl
theorem YD(tG:TypeId→Value→Value→Option Bool)(xs ys:List Value)(o:Nat)(t:TypeId)(fs:List (Nat×TypeId)):eqFields E tG xs ys ((o,t)::fs)=
  (jj E t xs o).bind fun a=>(jj E t ys o).bind fun b=>(tG t a b).bind fun r=>Oj r (eqFields E tG xs ys fs):=by
 simp only[eqFields]
 congr 1;funext a;congr 1;funext b;congr 1;funext r
 cases r<;>rfl
theorem YU{K:Tok→Value→Heap→Prop}(ty:TypeId):OP .go E T (.alloc ty) H K=optP .go (zeroOf E ty) fun t z=>K t (ptr H.next 0) (H.newRow (cj z)):=WA ty
def apT(H:Heap)(r o n:Nat)(v:Option Value):Option (Option Nat)→Bool
 |some a=>match v with
  |some (.pointer (some ⟨r',o',none⟩))=>bif r==r' then decide (o+n≤o')||decide (o'+a.getD 1≤o)else(H.objs.get r').isSome
  |_=>true
 |none=>true
def alone:Option AObj→Bool
 |some (.row _ none _)=>true
 |_=>false
def Hj(E:Env)(T:Tr Value)(H:Heap)(n:Nat)(l:List Op):Option Value→Bool
 |some (.pointer (some ⟨r,o,none⟩))=>alone (H.objs.get r)&&apartFrom E T H r o n l
 |_=>false
theorem YV(r o n:Nat):apartFrom E T H r o n []=true:=wE rfl rfl
theorem YW(a b:Nat):Nat.beq a b=(a==b):=by
 by_cases h:a=b
 ·rw[h,wbc];simp
 ·rw[au h,waK];intro hh;exact h (wbw hh)
theorem YX(r o n:Nat)(ty:TypeId)(x:Operand)(l:List Op):apartFrom E T H r o n (.load ty x::l)=(apT H r o n (ev T x) (dH E ty)&&apartFrom E T H r o n l):=by
 simp only[apartFrom,footOf]
 congr 1
 cases ev T x with
 |none=>cases dH E ty<;>rfl
 |some v=>
  simp only[wo,dH]
  cases E.ty.get ty with
  |none=>rfl
  |some i=>
   simp only[wo]
   unfold apT
   cases v with
   |pointer a=>
    match a with
    |none=>rfl
    |some ⟨r',o',some _⟩=>rfl
    |some ⟨r',o',none⟩=>
     simp only[YW,cC]
     congr 1
     congr 2
     cases i.agg<;>rfl
   |_=>rfl
theorem apart_cons(t:TypeId)(x y:Operand)(p:Op)(l:List Op):storeApart E T H (.store t x y) (p::l)=(match E.size t with
  |some n=>Hj E T H n (p::l) (ev T x)
  |none=>false):=by
 simp only[storeApart,footOf]
 cases ev T x with
 |none=>cases E.size t<;>rfl
 |some v=>
  cases E.size t with
  |none=>rfl
  |some n=>
   simp only[wo]
   unfold Hj
   cases v with
   |pointer a=>
    match a with
    |none=>rfl
    |some ⟨r',o',some _⟩=>rfl
    |some ⟨r',o',none⟩=>
     simp only[alone]
     cases H.objs.get r' with
     |none=>rfl
     |some ob=>match ob with
      | .row _ none _=>rfl
      | .row _ (some _) _=>rfl
      | .map _=>rfl
      | .loop .. =>rfl
      | .defers=>rfl
      | .iter .. =>rfl
      | .pj .. =>rfl
      | .lQ .. =>rfl
      | .lO .. =>rfl
   |_=>rfl
def baseV(H:Heap):Option Value→Bool
 |some (.slice none _ _)=>true
 |some (.slice (some ⟨r,_,none⟩) _ _)=>(match H.objs.get r with
  |some (.row _ (some _) _)=>true
  |_=>false)
 |_=>false
theorem YY(a b:Operand)(ts:Array TypeId)(p:Op)(l:List Op):storeApart E T H (.call {callee:= .builtin .append,args:= #[a,b],argTypes:=ts}) (p::l)=baseV H (ev T a):=by
 simp only[storeApart,appOf,lateBase]
 cases ev T a with
 |none=>rfl
 |some v=>
  unfold baseV
  cases v with
  |slice ad n c=>
   match ad with
   |none=>rfl
   |some ⟨_,_,some _⟩=>rfl
   |some ⟨r,o,none⟩=>
    simp only
    cases H.objs.get r with
    |none=>rfl
    |some ob=>match ob with
     | .row _ none _=>rfl
     | .row _ (some _) _=>rfl
     | .map _=>rfl
     | .loop .. =>rfl
     | .defers=>rfl
     | .iter .. =>rfl
     | .pj .. =>rfl
     | .lQ .. =>rfl
     | .lO .. =>rfl
  |_=>rfl
def yu(H:Heap):Option Value→Bool
 |some (.pointer (some ⟨r,_,none⟩))=>alone (H.objs.get r)
 |_=>false
def AN(b:Bool):Option (Option Nat)→Bool
 |some _=>b
 |none=>false
theorem YZ(b:Bool)(a:Option Nat):AN b (some a)=b:=wE rfl rfl
theorem Y0(r o:Nat):yu H (some (ptr r o))=alone (H.objs.get r):=wE rfl rfl
theorem Y6(l c:Nat):baseV H (some (.slice none l c))=true:=wE rfl rfl
theorem Ol(t:TypeId)(x:Operand)(p:Op)(l:List Op)(h:∀ q∈p::l,(appOf q).isSome=true):storeApart E T H (.load t x) (p::l)=AN (yu H (ev T x)) (dH E t):=by
 have key:∀ (r k n:Nat) (m:List Op),(∀q∈m,(appOf q).isSome=true)→apartFrom E T H r k n m=true:=by
  intro r k n m
  induction m with
  |nil=>intro _;rfl
  |cons q m ih=>
   intro hm
   have h1:=hm q (wW ..)
   have h2:footOf E T q=none:=by
    cases q<;>simp only[appOf,Option.isSome_none,wG]at h1
    rfl
   simp only[apartFrom,h2,wa9]
   exact ih fun q hq=>hm q (wM _ hq)
 simp only[storeApart,appOf,footOf]
 cases ev T x with
 |none=>
  simp only[Option.bind_none,yu]
  cases dH E t<;>rfl
 |some v=>
  simp only[wo,dH]
  cases E.ty.get t with
  |none=>rfl
  |some i=>
   simp only[wo]
   cases v with
   |pointer a=>
    match a with
    |none=>cases i.agg<;>rfl
    |some ⟨_,_,some _⟩=>cases i.agg<;>rfl
    |some ⟨r',o',none⟩=>
     simp only[yu,AN,alone]
     cases H.objs.get r' with
     |none=>cases i.agg<;>rfl
     |some ob=>match ob with
      | .row _ none _=>simp only;rw[key _ _ _ _ h]
      | .row _ (some _) _=>cases i.agg<;>rfl
      | .map _=>cases i.agg<;>rfl
      | .loop .. =>cases i.agg<;>rfl
      | .defers=>cases i.agg<;>rfl
      | .iter .. =>cases i.agg<;>rfl
      | .pj .. =>cases i.agg<;>rfl
      | .lQ .. =>cases i.agg<;>rfl
      | .lO .. =>cases i.agg<;>rfl
   |_=>cases i.agg<;>rfl
theorem Y7(t:TypeId)(x:Operand)(as:Array Operand)(ts:Array TypeId):storeApart E T H (.load t x) [.call {callee:= .builtin .append,args:=as,argTypes:=ts}]=AN (yu H (ev T x)) (dH E t):=
 Ol t x _ _ fun q hq=>by rw[waG]at hq;subst hq;rfl
theorem Y8(t:TypeId)(x:Operand)(as Y9:Array Operand)(ts Za:Array TypeId):storeApart E T H (.load t x) [.call {callee:= .builtin .append,args:=as,argTypes:=ts},.call {callee:= .builtin .append,args:=Y9,argTypes:=Za}]=AN (yu H (ev T x)) (dH E t):=
 Ol t x _ _ fun q hq=>by
  rcases wad.1 hq with rfl|hq
  ·rfl
  ·rw[waG]at hq;subst hq;rfl
theorem Zb(n:Nat)(l:List Op)(r o:Nat):Hj E T H n l (some (ptr r o))=(alone (H.objs.get r)&&apartFrom E T H r o n l):=wE rfl rfl
theorem Zc(r o n r' o':Nat)(a:Option Nat):apT H r o n (some (ptr r' o')) (some a)=bif r==r' then decide (o+n≤o')||decide (o'+a.getD 1≤o)else(H.objs.get r').isSome:=wE rfl rfl
theorem Zd(c:List Value)(t:Bool):alone (some (.row c none t))=true:=wE rfl rfl
structure aq(H H':Heap):Prop where
 lo:H'.lo=H.lo
 ag:H.next≤H'.next
 objs:∀ x,x<H.next→H'.objs.get x=H.objs.get x
 grps:∀ x,x<H.next→H'.grps.get x=H.grps.get x
theorem aq.refl(H:Heap):aq H H:=⟨rfl,wy _,fun _ _=>rfl,fun _ _=>rfl⟩
theorem aq.trans{H' kv:Heap}(h:aq H H')(h':aq H' kv):aq H kv:=
 ⟨h'.lo.trans h.lo,wK h.ag h'.ag,fun x hx=>(h'.objs x (wq hx h.ag)).trans (h.objs x hx),fun x hx=>(h'.grps x (wq hx h.ag)).trans (h.grps x hx)⟩
theorem fx(c:List Value):aq H (H.newRow c):=
 ⟨aH c,by rw[aB];omega,fun x hx=>by rw[aM,au (by omega)];rfl,fun x hx=>by rw[aN]⟩
theorem aq.newRow{H0:Heap}(h:aq H0 H)(c:List Value):aq H0 (H.newRow c):=h.trans (fx c)
theorem aq.setRow{H0:Heap}(h:aq H0 H){r:Nat}(hr:H0.next≤r)(c:List Value):aq H0 (H.setRow r c):=
 ⟨h.lo,h.ag,fun x hx=>by rw[aA,au (by omega)];exact h.objs x hx,h.grps⟩
theorem aq.keeps{H':Heap}(h:aq H H'){r:Nat}{ob:AObj}(hr:r<H.next)(ho:H.objs.get r=some ob):H'.objs.get r=some ob:=by rw[h.objs r hr,ho]
def SL{α:Type}(R:Heap→List Value→α→Prop)(z:Nat)(H:Heap)(v:Value)(l:List α):Prop:=
 ∃a cap,v= .slice a l.length cap∧(l.length≤cap∧l.length≤9223372036854775807)∧∀ i x,l[i]? =some x→∃ r o cells g t part,a=some ⟨r,o,none⟩∧r<H.next∧H.objs.get r=some (.row cells g t)∧cut cells (o+i*z) z=some part∧R H part x
structure Ext(H H':Heap):Prop where
 ag:H.next≤H'.next
 rows:∀ x cells g t,x<H.next→H.objs.get x=some (.row cells g t)→∃ t',H'.objs.get x=some (.row cells g t')
theorem aq.ext{H':Heap}(h:aq H H'):Ext H H':=⟨h.ag,fun _ _ _ t hx ho=>⟨t,h.keeps hx ho⟩⟩
def oM{α:Type}(R:Heap→List Value→α→Prop):Prop:=∀ H H' part x,Ext H H'→R H part x→R H' part x
theorem SL.ext{α:Type}{R:Heap→List Value→α→Prop}(hR:oM R){z:Nat}{H':Heap}{v:Value}{l:List α}(h:SL R z H v l)(hs:Ext H H'):SL R z H' v l:=by
 obtain⟨a,cap,h1,h2,h3⟩:=h
 refine⟨a,cap,h1,h2,fun i x hi=>?_⟩
 obtain⟨r,o,cells,g,t,part,h4,h5,h6,h7,h8⟩:=h3 i x hi
 obtain⟨t',h9⟩:=hs.rows r cells g t h5 h6
 exact⟨r,o,cells,g,t',part,h4,wq h5 hs.ag,h9,h7,hR _ _ _ _ hs h8⟩
theorem SL.mono{α:Type}{R:Heap→List Value→α→Prop}(hR:oM R){z:Nat}{H':Heap}{v:Value}{l:List α}(hs:aq H H')(h:SL R z H v l):SL R z H' v l:=h.ext hR hs.ext
theorem SL.nil{α:Type}(R:Heap→List Value→α→Prop)(z:Nat)(cap:Nat):SL R z H (.slice none 0 cap) []:=⟨none,cap,rfl,⟨wJ _,by simp⟩,fun i x hi=>by simp at hi⟩
theorem yl{l part:List Value}{o n:Nat}(h:cut l o n=some part):part.length=n∧o+n≤l.length∧part=(l.drop o).take n:=by
 rw[dB]at h
 split at h
 ·rename_i cp
  simp only[wi]at h
  subst h
  refine⟨by simp;omega,cp,rfl⟩
 ·cases h
def dd(k:IntKind):Heap→List Value→Int→Prop:=fun _ part n=>part=[.int k n]
theorem dd.mono(k:IntKind):oM (dd k):=fun _ _ _ _ _ h=>h
theorem SL.ofRow{α:Type}{R:Heap→List Value→α→Prop}{z r cap:Nat}{cells:List Value}{g:Option (Nat×Nat)}{t:Bool}{l:List α}(hr:r<H.next)(aG:H.objs.get r=some (.row cells g t))(Dv:l.length≤cap)(cg:l.length≤9223372036854775807)
  (h:∀ i x,l[i]? =some x→∃ part,cut cells (i*z) z=some part∧R H part x):SL R z H (.slice (some ⟨r,0,none⟩) l.length cap) l:=by
 refine⟨_,cap,rfl,⟨Dv,cg⟩,fun i x hi=>?_⟩
 obtain⟨part,h1,h2⟩:=h i x hi
 exact⟨r,0,cells,g,t,part,rfl,hr,aG,by rw[wau];exact h1,h2⟩
theorem Om{cells:List Value}{k:Nat}{v:Value}(h:cut cells k 1=some [v]):cells[k]? =some v:=by
 rw[dB]at h
 split at h
 ·simp only[wi]at h
  have:=congrArg (fun l=>l[0]?) h
  simpa using this
 ·simp at h
theorem wrap_i64{n:Int}(h1: -9223372036854775808≤n)(h2:n≤9223372036854775807):IntKind.i64.wrap n=n:=uo .i64 n h1 h2
theorem wrap_u64{n:Int}(h1:0≤n)(h2:n≤18446744073709551615):IntKind.u64.wrap n=n:=uo .u64 n h1 h2
def Heap.mW(H:Heap)(r:Nat)(cells:List Value)(g z:Nat)(aS:List Nat)(new:List Value):Heap:=
 {objs:=(H.objs.set r (.row cells (some (g,z)) false)).set H.next (.row new (some (g,z)) true),grps:=H.grps.set g (r::aS),next:=H.next+1,lo:=H.lo}
def dK(b z:Nat)(H:Heap)(v:Value)(n:Nat)(cs:List Value):Prop:=
 cs.length=n*z∧((v= .slice none 0 0∧n=0)∨
  ∃r,v= .slice (some ⟨r,0,none⟩) n n∧b≤r∧r<H.next∧
   (H.objs.get r=some (.row cs none true)∨∃ g aS,H.objs.get r=some (.row cs (some (g,z)) true)∧b≤g∧g<H.next∧H.grps.get g=some aS))
def ed(size bytes dJ:Nat):Bool:= !Nat.beq size 0&&Nat.ble (dJ*bytes) 10000000000&&Nat.ble dJ 1000000000&&true
def appendT(size bytes:Nat)(H:Heap)(s:Value)(k:Nat)(new:List Value):Option (Value×Heap):=
 match s with
 | .slice none len cap=>
   bif Nat.ble (len+k) cap then some (.slice none (len+k) cap,H)
   else bif !ed size bytes (len+k)|| !Nat.beq len 0 then none
   else some (.slice (some ⟨H.next,0,none⟩) (len+k) (len+k),H.dx size new)
 | .slice (some ⟨r,o,none⟩) len cap=>
   bif Nat.ble (len+k) cap then
    bif Nat.beq k 0 then some (.slice (some ⟨r,o,none⟩) (len+k) cap,H)
    else(H.write r (o+len*size) new).bind fun H=>some (.slice (some ⟨r,o,none⟩) (len+k) cap,H)
   else bif !ed size bytes (len+k)then none
   else
    match H.objs.get r with
    |some (.row cells none _)=>
     (cut cells o (len*size)).bind fun l=>some (.slice (some ⟨H.next,0,none⟩) (len+k) (len+k),H.dx size (l++new))
    |some (.row cells (some (g,z)) true)=>
     bif Nat.beq (o+len*size) cells.length&&Nat.ble H.lo r&&Nat.beq z size&&new.all isCell then
      (cut cells o (len*size)).bind fun l=>(H.grow r cells g z (l++new)).bind fun H'=>some (.slice (some ⟨H.next,0,none⟩) (len+k) (len+k),H')
     else none
    |_=>none
 |_=>none
structure Grown(b:Nat)(H H':Heap):Prop where
 lo:H'.lo=H.lo
 ag:H.next≤H'.next
 below:∀ x,x<b→H'.objs.get x=H.objs.get x∧H'.grps.get x=H.grps.get x
 alone:∀ x cells t,x<H.next→H.objs.get x=some (.row cells none t)→H'.objs.get x=some (.row cells none t)
 cells:∀ x cells g t,x<H.next→H.objs.get x=some (.row cells g t)→∃ t',H'.objs.get x=some (.row cells g t')
theorem iM(z:Nat)(c:List Value)(x:Nat):(H.dx z c).objs.get x=bif x==H.next then some (.row c (some (H.next,z)) true)else H.objs.get x:=by
 simp only[Heap.dx,fb,Tr.force_eq]
 show(if x=H.next then some _ else H.objs x)=_
 by_cases h:x=H.next
 ·simp[h]
 ·have h':(x==H.next)=false:=by simpa using h
  rw[wI h,h'];rfl
theorem jN(z:Nat)(c:List Value)(x:Nat):(H.dx z c).grps.get x=bif x==H.next then some []else H.grps.get x:=by
 simp only[Heap.dx,fb,Tr.force_eq]
 show(if x=H.next then some _ else H.grps x)=_
 by_cases h:x=H.next
 ·simp[h]
 ·have h':(x==H.next)=false:=by simpa using h
  rw[wI h,h'];rfl
theorem fW(z:Nat)(c:List Value):(H.dx z c).next=H.next+1:=by simp only[Heap.dx,fb,Tr.force_eq]
theorem yv(z:Nat)(c:List Value):(H.dx z c).lo=H.lo:=by simp only[Heap.dx,fb,Tr.force_eq]
theorem GR{r g z:Nat}{cells new:List Value}{aS:List Nat}(h:H.grps.get g=some aS):H.grow r cells g z new=some (H.mW r cells g z aS new):=by
 simp only[Heap.grow,h,fb,Tr.force_eq,Heap.mW]
theorem pB{r g z:Nat}{cells new:List Value}{aS:List Nat}(x:Nat):(H.mW r cells g z aS new).objs.get x=bif x==H.next then some (.row new (some (g,z)) true)else bif x==r then some (.row cells (some (g,z)) false)else H.objs.get x:=by
 show(if x=H.next then some _ else if x=r then some _ else H.objs x)=_
 by_cases h:x=H.next
 ·simp[h]
 ·rw[wI h,au h]
  by_cases h2:x=r
  ·simp[h2]
  ·rw[wI h2,au h2];rfl
theorem vN{r g z:Nat}{cells new:List Value}{aS:List Nat}(x:Nat):(H.mW r cells g z aS new).grps.get x=bif x==g then some (r::aS)else H.grps.get x:=by
 show(if x=g then some _ else H.grps x)=_
 by_cases h:x=g
 ·simp[h]
 ·rw[wI h,au h];rfl
theorem vM{b:Nat}(hb:b≤H.next)(z:Nat)(c:List Value):Grown b H (H.dx z c) where
 lo:=yv z c
 ag:=by rw[fW];omega
 below x hx:=by rw[iM,jN,au (show x≠H.next by omega)];exact⟨rfl,rfl⟩
 alone x cells t hx h:=by rw[iM,au (by omega)];exact h
 cells x cells g t hx h:=⟨t,by rw[iM,au (by omega)];exact h⟩
theorem NF{b r g z:Nat}{cells new:List Value}{aS:List Nat}(hb:b≤H.next)(hr:b≤r)(hg:b≤g)(aG:H.objs.get r=some (.row cells (some (g,z)) true)):Grown b H (H.mW r cells g z aS new) where
 lo:=rfl
 ag:=Nat.le_succ _
 below x hx:=by rw[pB,vN,au (show x≠H.next by omega),au (show x≠r by omega),au (show x≠g by omega)];exact⟨rfl,rfl⟩
 alone x c t hx h:=by
  have:x≠r:=fun e=>by rw[e,aG]at h;simp at h
  rw[pB,au (by omega),au this];exact h
 cells x c g' t hx h:=by
  rw[pB,au (by omega)]
  by_cases e:x=r
  ·rw[e,aG]at h
   simp only[wi,AObj.row.injEq]at h
   obtain⟨rfl,rfl,rfl⟩:=h
   exact⟨false,by rw[cB e];rfl⟩
  ·exact⟨t,by rw[au e];exact h⟩
theorem Grown.same{b:Nat}{H' H0:Heap}(h:Grown b H H')(h0:aq H0 H)(hb:H0.next≤b):aq H0 H':=
 ⟨h.lo.trans h0.lo,wK h0.ag h.ag,fun x hx=>((h.below x (by omega)).1).trans (h0.objs x hx),fun x hx=>((h.below x (by omega)).2).trans (h0.grps x hx)⟩
theorem vO{b size bytes:Nat}{s:Value}{n k:Nat}{cs new:List Value}(ho:dK b size H s n cs)(hb:b≤H.next)(aj:H.lo≤b)(hk:k≠0)(jG:new.length=k*size)(kS:new.all isCell=true)(bh:ed size bytes (n+k)=true):
  ∃H',appendT size bytes H s k new=some (.slice (some ⟨H.next,0,none⟩) (n+k) (n+k),H')∧dK b size H' (.slice (some ⟨H.next,0,none⟩) (n+k) (n+k)) (n+k) (cs++new)∧Grown b H H'∧H'.next=H.next+1:=by
 have qK:Nat.ble (n+k) n=false:=waK.2 fun hh=>by have:=wan hh;omega
 have cg:(cs++new).length=(n+k)*size:=by rw[wN,ho.1,jG,waW]
 rcases ho with⟨hc,⟨rfl,rfl⟩|⟨r,rfl,h1,h2,h3⟩⟩
 ·have As:cs=[]:=wac (by omega)
  subst As
  have:Nat.ble (0+k) 0=false:=qK
  refine⟨H.dx size new,by simp only[appendT,this,bh,wS];rfl,⟨cg,.inr ⟨H.next,rfl,hb,by rw[fW];omega,.inr ⟨H.next,[],?_,hb,by rw[fW];omega,?_⟩⟩⟩,vM hb ..,fW ..⟩
  ·rw[iM,cB rfl];rfl
  ·rw[jN,cB rfl];rfl
 ·have a8:cut cs 0 (n*size)=some cs:=by rw[dB,wF (by omega),waZ,wZ (by omega)]
  rcases h3 with h3|⟨g,aS,h3,h4,h5,h6⟩
  ·refine⟨H.dx size (cs++new),by simp only[appendT,qK,bh,wS,h3,a8,wo];rfl,⟨cg,.inr ⟨H.next,rfl,hb,by rw[fW];omega,.inr ⟨H.next,[],?_,hb,by rw[fW];omega,?_⟩⟩⟩,vM hb ..,fW ..⟩
   ·rw[iM,cB rfl];rfl
   ·rw[jN,cB rfl];rfl
  ·have e1:Nat.beq (0+n*size) cs.length=true:=by rw[hc,wau];exact wbc _
   have e2:Nat.ble H.lo r=true:=wP (by omega)
   have e3:Nat.beq size size=true:=wbc _
   refine⟨H.mW r cs g size aS (cs++new),by simp only[appendT,qK,bh,wS,h3,e1,e2,e3,kS,wb8,wai,a8,wo,GR h6];rfl,⟨cg,.inr ⟨H.next,rfl,hb,wcd _,.inr ⟨g,r::aS,?_,h4,wbf h5,?_⟩⟩⟩,NF hb h1 h4 h3,rfl⟩
   ·rw[pB,cB rfl];rfl
   ·rw[vN,cB rfl];rfl
theorem dK.nil(b z:Nat)(H:Heap):dK b z H (.slice none 0 0) 0 []:=⟨by simp,.inl ⟨rfl,rfl⟩⟩
theorem dK.same{b z n:Nat}{v:Value}{cs:List Value}{H':Heap}(h:dK b z H v n cs)(hs:aq H H'):dK b z H' v n cs:=by
 rcases h with⟨hc,h|⟨r,h0,h1,h2,h3⟩⟩
 ·exact⟨hc,.inl h⟩
 ·refine⟨hc,.inr ⟨r,h0,h1,wq h2 hs.ag,?_⟩⟩
  rcases h3 with h3|⟨g,aS,h3,h4,h5,h6⟩
  ·exact .inl (hs.keeps h2 h3)
  ·exact .inr ⟨g,aS,hs.keeps h2 h3,h4,wq h5 hs.ag,by rw[hs.grps g h5];exact h6⟩
theorem dK.read{α:Type}{R:Heap→List Value→α→Prop}{b z n:Nat}{v:Value}{cs:List Value}{l:List α}(h:dK b z H v n cs)(hl:l.length=n)(cg:l.length≤9223372036854775807)(hR:∀ i x,l[i]? =some x→∃ part,cut cs (i*z) z=some part∧R H part x):SL R z H v l:=by
 subst hl
 rcases h with⟨hc,⟨rfl,h⟩|⟨r,rfl,h1,h2,h3⟩⟩
 ·have:l=[]:=wac h
  subst this
  exact SL.nil R z 0
 ·rcases h3 with h3|⟨g,aS,h3,_⟩
  ·exact SL.ofRow h2 h3 (wy _) cg hR
  ·exact SL.ofRow h2 h3 (wy _) cg hR
theorem Grown.ext{b:Nat}{H':Heap}(h:Grown b H H'):Ext H H':=⟨h.ag,h.cells⟩
def dD{α:Type}(R:Heap→List Value→α→Prop)(z:Nat)(H:Heap)(cs:List Value)(l:List α):Prop:=
 cs.length=l.length*z∧∀ i x,l[i]? =some x→∃ part,cut cs (i*z) z=some part∧R H part x
theorem dD.nil{α:Type}(R:Heap→List Value→α→Prop)(z:Nat)(H:Heap):dD R z H [] []:=⟨by simp,fun i x h=>by simp at h⟩
theorem dD.snoc{α:Type}{R:Heap→List Value→α→Prop}{z:Nat}{cs part:List Value}{l:List α}{x:α}(h:dD R z H cs l)(hp:part.length=z)(hx:R H part x):dD R z H (cs++part) (l++[x]):=by
 refine⟨by simp[h.1,hp,waW],fun i y hi=>?_⟩
 by_cases hlt:i<l.length
 ·rw[waf hlt]at hi
  obtain⟨p,h1,h2⟩:=h.2 i y hi
  refine⟨p,?_,h2⟩
  rw[dB]at h1⊢
  split at h1
  ·rename_i cp
   rw[wF (by simp;omega),wbY (by omega),wbX (by simp;omega)]
   exact h1
  ·cases h1
 ·have eh:i=l.length:=by
   have:=(wD.1 hi).1
   simp at this;omega
  subst eh
  simp at hi
  subst hi
  refine⟨part,?_,hx⟩
  rw[←h.1,dB,wF (by simp[hp]),List.drop_left,wZ (by omega)]
theorem dD.one{α:Type}{R:Heap→List Value→α→Prop}{z:Nat}{part:List Value}{x:α}(hp:part.length=z)(hx:R H part x):dD R z H part [x]:=by
 have:=(dD.nil R z H).snoc hp hx
 simpa using this
theorem dK.slice{b z n:Nat}{v:Value}{cs:List Value}(h:dK b z H v n cs):∃ a l c,v= .slice a l c:=by
 rcases h with⟨_,⟨rfl,_⟩|⟨r,rfl,_⟩⟩<;>exact⟨_,_,_,rfl⟩
theorem dK.reads{α:Type}{R:Heap→List Value→α→Prop}{b z n:Nat}{v:Value}{cs:List Value}{l:List α}(h:dK b z H v n cs)(hl:l.length=n)(cg:l.length≤9223372036854775807)(hR:dD R z H cs l):SL R z H v l:=h.read hl cg hR.2
structure m0(k:Nat)(H H':Heap):Prop where
 lo:H'.lo=H.lo
 ag:H.next≤H'.next
 objs:∀ x,x<H.next→x≠k→H'.objs.get x=H.objs.get x
 grps:∀ x,x<H.next→H'.grps.get x=H.grps.get x
theorem aq.Hl{H':Heap}(h:aq H H')(k:Nat):m0 k H H':=⟨h.lo,h.ag,fun x hx _=>h.objs x hx,h.grps⟩
theorem m0.same{k:Nat}{H0 H':Heap}(h:m0 k H H')(h0:aq H0 H)(hk:H0.next≤k):aq H0 H':=
 ⟨h.lo.trans h0.lo,wK h0.ag h.ag,fun x hx=>(h.objs x (wq hx h0.ag) (by omega)).trans (h0.objs x hx),fun x hx=>(h.grps x (wq hx h0.ag)).trans (h0.grps x hx)⟩
theorem m0.trans{k:Nat}{H' kv:Heap}(h:m0 k H H')(h':aq H' kv):m0 k H kv:=
 ⟨h'.lo.trans h.lo,wK h.ag h'.ag,fun x hx hk=>(h'.objs x (wq hx h.ag)).trans (h.objs x hx hk),fun x hx=>(h'.grps x (wq hx h.ag)).trans (h.grps x hx)⟩
theorem m0.setRow{k:Nat}{H':Heap}(h:m0 k H H')(c:List Value):m0 k H (H'.setRow k c):=
 ⟨h.lo,h.ag,fun x hx hk=>by rw[aA,au hk];exact h.objs x hx hk,h.grps⟩
theorem m0.keeps{k:Nat}{H':Heap}(h:m0 k H H'){r:Nat}{ob:AObj}(hr:r<H.next)(hk:r≠k)(ho:H.objs.get r=some ob):H'.objs.get r=some ob:=by rw[h.objs r hr hk,ho]
end
section
variable{E:Env}{sz:Nat}
def Heap.qz(H:Heap)(sz:Nat)(T:Tr Value)(ps:List Tmp)(as bo:Code):Heap:=(H.add .defers).add (.loop .ready none sz T ps as bo H.next)
theorem UI{f:Operand}{ps:Array Tmp}{as bo:Code}{T:Tr Value}{mk:List Nat}{H:Heap}{Q:Ex→Tr Value→List Nat→Heap→Prop}{g:FuncId}{first cap:Array Value}
  (h0:ev T f=some (.func (.func g) first cap))
  (ho:E.orc (.func (.func g) first cap) [.func (.yield (H.next+1)) #[] #[]] (H.qz sz T ps.toList as bo)=none)
  (h:af E (.func (.func g) first cap) [.func (.yield (H.next+1)) #[] #[]] (H.qz sz T ps.toList as bo) fun _ H3=>∃ st pending,H3.objs.get (H.next+1)=some (.loop st pending sz T ps.toList as bo H.next)∧st≠ .busy∧
   ((pending=none∧Q .normal T (H.next::mk) (H3.setObj (H.next+1) (.loop .exhausted none sz T ps.toList as bo H.next)))∨
    (pending=some .ret∧Q .ret T (H.next::mk) (H3.setObj (H.next+1) (.loop .exhausted (some .ret) sz T ps.toList as bo H.next))))):
  gj E sz (.rangeFunc f ps as bo) T mk none H Q:=by
 obtain⟨n,v,H3,hc,st,eQ,hg,cK,hQ⟩:=h
 have hn:(H.add .defers).next=H.next+1:=ja H _
 cases n with
 |zero=>
  unfold fS at hc
  rw[ho]at hc
  simp only[callBody,target,wo,run]at hc
  cases h1:E.fn.get g with
  |none=>simp[h1]at hc
  |some fn=>
   cases h2:fn.body with
   |none=>
    simp only[h1,h2,wo,Lc]at hc
    simp at hc
   |some c=>
    simp only[h1,h2,wo,Option.bind_none]at hc
    cases h3:(!Nat.ble (first.toList++[Value.func (.yield (H.next+1)) #[] #[]]++cap.toList).length fn.ntmps)<;>simp[h3]at hc
 |succ n=>
  unfold fS at hc
  rw[ho]at hc
  have DA:callBody E (run E (n+1)) (.func (.func g) first cap) [.func (.yield (H.add .defers).next) #[] #[]] ((H.add .defers).add (.loop .ready none sz T ps.toList as bo H.next))=some (v,H3):=by
   rw[hn];exact hc
  rcases hQ with⟨rfl,hq⟩|⟨rfl,hq⟩
  ·refine⟨n+2,.normal,T,_,_,?_,hq⟩
   show runWith E (run E (n+1)) _ _ _=_
   simp only[runWith,h0,wo,rangeV,DA]
   rw[hn,hg]
   cases st<;>first|exact absurd rfl cK|rfl
  ·refine⟨n+2,.ret,T,_,_,?_,hq⟩
   show runWith E (run E (n+1)) _ _ _=_
   simp only[runWith,h0,wo,rangeV,DA]
   rw[hn,hg]
   cases st<;>first|exact absurd rfl cK|rfl
def UF(l:Nat)(H:Heap)(K:Value→Heap→Prop):Ex→Prop
 | .normal=>∃ H',H.setLoop l false .ready none=some H'∧K (.bool true) H'
 | .ret=>∃ H',H.setLoop l false .done (some .ret)=some H'∧K (.bool false) H'
 | .exit _=>False
theorem DB{g:FuncId}{fn:Func}{c:Code}{first captured:Array Value}{args:List Value}{H:Heap}{K:Value→Heap→Prop}(ho:E.orc (.func (.func g) first captured) args H=none)(h1:E.fn.get g=some fn)(h2:fn.body=some c)(h3:Nat.ble (first.toList++args++captured.toList).length fn.ntmps=true)
  (h:wp .go E fn.ntmps c pf (Tr.of (first.toList++args++captured.toList)) [] none H fun t ex T' bs H'=>yn t ex (fun t=>∃ os,killMarks H.lo H'.objs bs=some os∧optP t (resultsV E {objs:=os,grps:=H'.grps,next:=H'.next,lo:=H'.lo} T' fn.results.toList) fun _ vs=>K (jH vs) {objs:=os,grps:=H'.grps,next:=H'.next,lo:=H'.lo})):af E (.func (.func g) first captured) args H K:=by
 obtain⟨n,ex,T',bs,H',h4,h5⟩:=x7 c h
 refine⟨n,?_⟩
 have key:∀ os vs,killMarks H.lo H'.objs bs=some os→resultsV E {objs:=os,grps:=H'.grps,next:=H'.next,lo:=H'.lo} T' fn.results.toList=some vs→(∀id,ex≠ .exit id)→fS E (run E n) (.func (.func g) first captured) args H=some (jH vs,{objs:=os,grps:=H'.grps,next:=H'.next,lo:=H'.lo}):=by
  intro os vs hm hr hx
  unfold fS
  rw[ho]
  simp only[callBody,target,wo,h1,h2,h3,wa7,wS,h4,hm,Tr.force_eq]
  cases ex with
  |exit id=>exact absurd rfl (hx id)
  |_=>simp only[hr,wo]
 cases ex with
 |exit id=>exact h5.elim
 |normal=>
  obtain⟨os,hm,vs,h6,h7⟩:=h5
  exact⟨_,_,key os vs hm h6 (by simp),h7⟩
 |ret=>
  obtain⟨os,hm,vs,h6,h7⟩:=h5
  exact⟨_,_,key os vs hm h6 (by simp),h7⟩
end
set_option linter.defProp false
section
variable{E:Env}{sz:Nat}{T:Tr Value}{H:Heap}
theorem Ze(x:Bool):(x==true)=x:=by cases x<;>rfl
theorem Zf(x:Bool):(x==false)= !x:=by cases x<;>rfl
end
theorem Zg{α:Type}(a b:α):(bif true then a else b)=a:=wE rfl rfl
theorem Zh{α:Type}(a b:α):(bif false then a else b)=b:=wE rfl rfl
theorem Zi{α β:Type}(a:α)(f:α→Option β):(some a).bind f=f a:=wE rfl rfl
theorem Zj{α β:Type}(a:α)(f:α→β):(some a).map f=some (f a):=wE rfl rfl
theorem Zk(n:Nat):n+0=n:=wE rfl rfl
theorem Zl{α:Type}(a:α)(l:List α):(a::l)[0]? =some a:=wE rfl rfl
theorem Zm{α:Type}(a:α)(i:Nat)(l:List α):(a::l)[i+1]? =l[i]? :=wE rfl rfl
theorem Zn{α:Type}(a:α)(l:List α):(a::l).length=l.length+1:=wE rfl rfl
theorem Zo{α:Type}:([]:List α).length=0:=wE rfl rfl
theorem Zp{α:Type}(l:List α):l.drop 0=l:=wE rfl rfl
theorem Zq{α:Type}(a:α)(l:List α)(i:Nat):(a::l).drop (i+1)=l.drop i:=wE rfl rfl
theorem Zr{α:Type}(l:List α):[]++l=l:=wE rfl rfl
theorem Zs{α:Type}(a:α)(l m:List α):a::l++m=a::(l++m):=wE rfl rfl
theorem Zt{α:Type}(a:α)(l:List α)(f:α→Bool):(a::l).all f=(f a&&l.all f):=wE rfl rfl
theorem Zu{α:Type}(f:α→Bool):([]:List α).all f=true:=wE rfl rfl
theorem Zv:(!true)=false:=wE rfl rfl
theorem Zw:(!false)=true:=wE rfl rfl
theorem Zx(b:Bool):(true&&b)=b:=wE rfl rfl
theorem Zy(b:Bool):(false&&b)=false:=wE rfl rfl
theorem Zz(b:Bool):(true||b)=true:=wE rfl rfl
theorem ZA(b:Bool):(false||b)=b:=wE rfl rfl
theorem ZB{α:Type}(a:α):(some a).isSome=true:=wE rfl rfl
theorem ZI{α:Type}:(none:Option α).isSome=false:=wE rfl rfl
theorem ZJ{h:Decidable True}:@decide True h=true:=by cases h<;>first|rfl|contradiction
theorem ZK{h:Decidable False}:@decide False h=false:=by cases h<;>first|rfl|contradiction
theorem ZL(n:Nat):0+n=n:=wau n
theorem ZM{α:Type}(i:Nat):([]:List α).drop i=[]:=by simp
theorem ZO{α:Type}(l:List α):l++[]=l:=by simp
theorem ZP(b:Bool):(b&&true)=b:=by simp
theorem ZQ(b:Bool):(b&&false)=false:=by simp
theorem ZR(b:Bool):(b||false)=b:=by simp
theorem ZS(b:Bool):(!!b)=b:=by simp
theorem ZT(n:Nat):(n==n)=true:=by simp
theorem ZU(n:Bool):(n==n)=true:=by simp
def sh:=And.intro (And.intro (And.intro (And.intro (And.intro @wp_skip (And.intro @wp_region @XA)) (And.intro (And.intro @XB @XC) (And.intro @XD @XE))) (And.intro (And.intro (And.intro @wp_cond @wp_block) (And.intro @wp_exit @wp_ret)) (And.intro (And.intro @XF @XG) (And.intro @XH @wpOps_cons)))) (And.intro (And.intro (And.intro @XI (And.intro @Yg @Yh)) (And.intro (And.intro @Yj @Yi) (And.intro @XJ @XK))) (And.intro (And.intro (And.intro @XL @XM) (And.intro @XN @XO)) (And.intro (And.intro @XP @XQ) (And.intro @XR @XS))))) (And.intro (And.intro (And.intro (And.intro @AE (And.intro @N9 @fR)) (And.intro (And.intro @yt @G9) (And.intro @Oa @fg))) (And.intro (And.intro (And.intro @Hb @Wv) (And.intro @Ww @Wz)) (And.intro (And.intro @WB @WC) (And.intro @WD @WE)))) (And.intro (And.intro (And.intro @WG (And.intro @WH @WI)) (And.intro (And.intro @WJ @WK) (And.intro @WM @WN))) (And.intro (And.intro (And.intro @WO @WR) (And.intro @DK @WT)) (And.intro (And.intro @WU @WV) (And.intro @Yt @YU)))))
def sx:=And.intro (And.intro (And.intro (And.intro (And.intro (And.intro @AE (And.intro @N9 @Hb)) (And.intro (And.intro @fg @fR) (And.intro @yt @G9))) (And.intro (And.intro @Oa (And.intro @dq @of_nil)) (And.intro (And.intro @Oc @Od) (And.intro @Oe @Wl)))) (And.intro (And.intro (And.intro @Wm (And.intro @Wn @Wo)) (And.intro (And.intro @Wp @Wq) (And.intro @Wr @DL))) (And.intro (And.intro (And.intro @DM @Ws) (And.intro @Wt @Wu)) (And.intro (And.intro @WQ @XT) (And.intro @results_tmp @XU))))) (And.intro (And.intro (And.intro (And.intro @XV (And.intro @XW @XX)) (And.intro (And.intro @XY @WW) (And.intro @WX @WY))) (And.intro (And.intro (And.intro @WZ @W1) (And.intro @W2 @W3)) (And.intro (And.intro @W4 @W5) (And.intro @W6 @W7)))) (And.intro (And.intro (And.intro @W8 (And.intro @W9 @Xa)) (And.intro (And.intro @Xb @Xd) (And.intro @Xe @Xf))) (And.intro (And.intro (And.intro @Xg @Xh) (And.intro @Xi @Xj)) (And.intro (And.intro @Xk @Xl) (And.intro @Xm @Xn)))))) (And.intro (And.intro (And.intro (And.intro (And.intro @Xo (And.intro @Xp @Xq)) (And.intro (And.intro @Xr @Xs) (And.intro @oL @aB))) (And.intro (And.intro (And.intro @aH @aM) (And.intro @aN @aA)) (And.intro (And.intro @aJ @aI) (And.intro @aO @Xt)))) (And.intro (And.intro (And.intro @Xu (And.intro @Xv @Xw)) (And.intro (And.intro @Xx @Xy) (And.intro @Xz @Ys))) (And.intro (And.intro (And.intro @AL @Yn) (And.intro @Hi @Yp)) (And.intro (And.intro @Yq @Yr) (And.intro @Ax @Aw))))) (And.intro (And.intro (And.intro (And.intro @Yu (And.intro @Yv @Yw)) (And.intro (And.intro @Yx @GU) (And.intro @GV @Yy))) (And.intro (And.intro (And.intro @YD @Yz) (And.intro @gI @K1)) (And.intro (And.intro @aE @aK) (And.intro @aL @Cr)))) (And.intro (And.intro (And.intro @aR (And.intro @aP @Yl)) (And.intro (And.intro @apart_cons @Zb) (And.intro @Zc @Zd))) (And.intro (And.intro (And.intro @YV @YX) (And.intro @Yb @Yc)) (And.intro (And.intro @Ye @Yf) (And.intro @Ze @Zf))))))
def sl:=And.intro (And.intro (And.intro (And.intro (And.intro @Zg @Zh) (And.intro @Zi @Zj)) (And.intro (And.intro @Zk @Zl) (And.intro @Zm (And.intro @Zn @Zo)))) (And.intro (And.intro (And.intro @Zp @Zq) (And.intro @Zr @Zs)) (And.intro (And.intro @Zt @Zu) (And.intro @Zv (And.intro @Zw @Zx))))) (And.intro (And.intro (And.intro (And.intro @Zy @Zz) (And.intro @ZA @ZB)) (And.intro (And.intro @ZI @ZJ) (And.intro @ZK (And.intro @ZL @ZM)))) (And.intro (And.intro (And.intro @ZO @ZP) (And.intro @ZQ @ZR)) (And.intro (And.intro @ZS @ZT) (And.intro @ZU (And.intro @wbT @wcl)))))
section
variable{H:Heap}
def aC(g:Nat):Value:= .func (.func g) #[] #[]
theorem qI{cells:List Value}{k:Nat}{a b:Value}(h:cut cells k 2=some [a,b]):cells[k]? =some a∧cells[k+1]? =some b:=by
 obtain⟨_,_,h3⟩:=yl h
 have e0:((cells.drop k).take 2)[0]? =cells[k]? :=by simp[wab,wae]
 have e1:((cells.drop k).take 2)[1]? =cells[k+1]? :=by simp[wab,wae]
 rw[←e0,←e1,←h3]
 exact⟨rfl,rfl⟩
theorem vL{cells:List Value}{k:Nat}{a b c:Value}(h:cut cells k 3=some [a,b,c]):cells[k]? =some a∧cells[k+1]? =some b∧cells[k+2]? =some c:=by
 obtain⟨_,_,h3⟩:=yl h
 have e0:((cells.drop k).take 3)[0]? =cells[k]? :=by simp[wab,wae]
 have e1:((cells.drop k).take 3)[1]? =cells[k+1]? :=by simp[wab,wae]
 have e2:((cells.drop k).take 3)[2]? =cells[k+2]? :=by simp[wab,wae]
 rw[←e0,←e1,←e2,←h3]
 exact⟨rfl,rfl,rfl⟩
theorem od(H:Heap)(c d:List Value):aq H ((H.newRow c).setRow H.next d):=(fx _).setRow (wy _) _
theorem GQ(T:Tr Value):ev T (.const .nilFunc)=some .nilFunc:=wE rfl rfl
theorem px(H:Heap)(o:AObj)(r:Nat):(H.add o).objs.get r=bif r==H.next then some o else H.objs.get r:=by
 simp only[Heap.add,fb,Tr.force_eq]
 show(if r=H.next then some _ else H.objs r)=_
 by_cases h:r=H.next
 ·simp[h]
 ·have h':(r==H.next)=false:=by simpa using h
  rw[wI h,h'];rfl
theorem iw(H:Heap)(l:Nat)(o:AObj)(x:Nat):(H.setObj l o).objs.get x=bif x==l then some o else H.objs.get x:=by
 simp only[Heap.setObj,Tr.force_eq]
 show(if x=l then some _ else H.objs x)=_
 by_cases h:x=l
 ·simp[h]
 ·have h':(x==l)=false:=by simpa using h
  rw[wI h,h'];rfl
theorem oJ(H:Heap)(l:Nat)(o:AObj):(H.setObj l o).next=H.next:=by simp only[Heap.setObj,Tr.force_eq]
theorem x4(H:Heap)(l:Nat)(o:AObj):(H.setObj l o).lo=H.lo:=by simp only[Heap.setObj,Tr.force_eq]
theorem vx(H:Heap)(l:Nat)(o:AObj):(H.setObj l o).grps=H.grps:=by simp only[Heap.setObj,Tr.force_eq]
theorem Aa(H:Heap)(o:AObj):aq H (H.add o):=
 ⟨vw H o,by rw[ja];omega,fun x hx=>by rw[px,au (by omega)];rfl,fun x _=>by rw[zM]⟩
theorem UJ{H:Heap}{l s d:Nat}{p:Option Code}{T:Tr Value}{ps:List Tmp}{a b:Code}(h:H.objs.get l=some (.loop .ready p s T ps a b d)):H.setLoop l true .busy none=some (H.setObj l (.loop .busy p s T ps a b d)):=by simp only[Heap.setLoop,h]
theorem Mm{H:Heap}{l s d:Nat}{VN st:LoopState}{p q:Option Code}{T:Tr Value}{ps:List Tmp}{a b:Code}(h:H.objs.get l=some (.loop VN p s T ps a b d)):H.setLoop l false st q=some (H.setObj l (.loop st q s T ps a b d)):=by simp only[Heap.setLoop,h]
theorem Au{lo k:Nat}{t:Tr AObj}(h:t.get k=some .defers)(hk:lo≤k):killMarks lo t [k]=some (t.del k):=by
 have hb:Nat.ble lo k=true:=by simpa using hk
 simp only[killMarks,h,hb,wai]
theorem uq(t:Tr AObj)(k x:Nat)(h:x≠k):(t.del k).get x=t.get x:=by
 show(if x=k then none else t x)=_
 rw[wI h];rfl
theorem ND{H X:Heap}(h:aq H X){k:Nat}(hk:H.next≤k){n l:Nat}{gr:Tr (List Nat)}(hn:n=X.next)(hl:l=X.lo)(hg:gr=X.grps):aq H ⟨X.objs.del k,gr,n,l⟩:=by
 subst hn;subst hl;subst hg
 exact⟨h.lo,h.ag,fun x hx=>(uq _ _ _ (by omega)).trans (h.objs x hx),h.grps⟩
def b8(b z:Nat)(H:Heap)(v:Value)(n:Nat)(cs:List Value)(f:Option (Nat×Nat)):Prop:=
 cs.length=n*z∧match f with
  |none=>v= .slice none 0 0∧n=0
  |some (r,g)=>v= .slice (some ⟨r,0,none⟩) n n∧b≤r∧r<H.next∧b≤g∧g<H.next∧∃ aS,H.objs.get r=some (.row cs (some (g,z)) true)∧H.grps.get g=some aS
def pA:Option (Nat×Nat)→Option (Nat×Nat)→Prop
 |some (r,g),some (r2,g2)=>r≠r2∧g≠g2
 |_,_=>True
theorem b8.own{b z n:Nat}{v:Value}{cs:List Value}{f:Option (Nat×Nat)}(h:b8 b z H v n cs f):dK b z H v n cs:=by
 obtain⟨h0,h⟩:=h
 match f,h with
 |none,h=>exact⟨h0,.inl h⟩
 |some (r,g),⟨h1,h2,h3,h4,h5,aS,h6,h7⟩=>exact⟨h0,.inr ⟨r,h1,h2,h3,.inr ⟨g,aS,h6,h4,h5,h7⟩⟩⟩
theorem b8.nil(b z:Nat)(H:Heap):b8 b z H (.slice none 0 0) 0 [] none:=⟨by simp,rfl,rfl⟩
theorem b8.cz{b z n:Nat}{v:Value}{cs:List Value}{f:Option (Nat×Nat)}{H':Heap}(h:b8 b z H v n cs f)(hn:H.next≤H'.next)(ho:∀ r g,f=some (r,g)→H'.objs.get r=H.objs.get r∧H'.grps.get g=H.grps.get g):b8 b z H' v n cs f:=by
 obtain⟨h0,h⟩:=h
 match f,h,ho with
 |none,h,_=>exact⟨h0,h⟩
 |some (r,g),⟨h1,h2,h3,h4,h5,aS,h6,h7⟩,ho=>
  obtain⟨e1,e2⟩:=ho r g rfl
  exact⟨h0,h1,h2,by omega,h4,by omega,aS,by rw[e1];exact h6,by rw[e2];exact h7⟩
theorem b8.below{b z n:Nat}{v:Value}{cs:List Value}{r g:Nat}(h:b8 b z H v n cs (some (r,g))):r<H.next∧g<H.next:=by
 obtain⟨_,h1,h2,h3,h4,h5,_⟩:=h
 exact⟨h3,h5⟩
theorem b8.same{b z n:Nat}{v:Value}{cs:List Value}{f:Option (Nat×Nat)}{H':Heap}(h:b8 b z H v n cs f)(hs:aq H H'):b8 b z H' v n cs f:=
 h.cz hs.ag fun r g e=>by subst e;exact⟨hs.objs r h.below.1,hs.grps g h.below.2⟩
theorem qJ{b size bytes:Nat}{s:Value}{n k:Nat}{cs new:List Value}{f:Option (Nat×Nat)}(ho:b8 b size H s n cs f)(hb:b≤H.next)(aj:H.lo≤b)(hk:k≠0)(jG:new.length=k*size)(kS:new.all isCell=true)(bh:ed size bytes (n+k)=true):
  ∃H' f',appendT size bytes H s k new=some (.slice (some ⟨H.next,0,none⟩) (n+k) (n+k),H')∧b8 b size H' (.slice (some ⟨H.next,0,none⟩) (n+k) (n+k)) (n+k) (cs++new) f'∧Grown b H H'∧H'.next=H.next+1∧
   ∀z2 v2 n2 Dy f2,b8 b z2 H v2 n2 Dy f2→pA f f2→b8 b z2 H' v2 n2 Dy f2∧pA f' f2:=by
 have qK:Nat.ble (n+k) n=false:=waK.2 fun hh=>by have:=wan hh;omega
 obtain⟨hc,ho⟩:=ho
 have cg:(cs++new).length=(n+k)*size:=by rw[wN,hc,jG,waW]
 match f,ho with
 |none,⟨h1,h2⟩=>
  subst h1 h2
  have As:cs=[]:=wac (by omega)
  subst As
  have:Nat.ble (0+k) 0=false:=qK
  refine⟨H.dx size new,some (H.next,H.next),by simp only[appendT,this,bh,wS];rfl,⟨cg,rfl,hb,by rw[fW];omega,hb,by rw[fW];omega,[],?_,?_⟩,vM hb ..,fW ..,?_⟩
  ·rw[iM,cB rfl];rfl
  ·rw[jN,cB rfl];rfl
  ·intro z2 v2 n2 Dy f2 h2 _
   refine⟨h2.cz (by rw[fW];omega) fun r g e=>?_,?_⟩
   ·subst e
    have:=h2.below
    exact⟨by rw[iM,au (by omega)];rfl,by rw[jN,au (by omega)];rfl⟩
   ·match f2,h2 with
    |none,_=>trivial
    |some (r,g),h2=>have:=h2.below;exact⟨by omega,by omega⟩
 |some (r,g),⟨h0,h1,h2,h4,h5,aS,h3,h6⟩=>
  subst h0
  have a8:cut cs 0 (n*size)=some cs:=by rw[dB,wF (by omega),waZ,wZ (by omega)]
  have e1:Nat.beq (0+n*size) cs.length=true:=by rw[hc,wau];exact wbc _
  have e2:Nat.ble H.lo r=true:=wP (by omega)
  have e3:Nat.beq size size=true:=wbc _
  refine⟨H.mW r cs g size aS (cs++new),some (H.next,g),by simp only[appendT,qK,bh,wS,h3,e1,e2,e3,kS,wb8,wai,a8,wo,GR h6];rfl,⟨cg,rfl,hb,wcd _,h4,wbf h5,r::aS,?_,?_⟩,NF hb h1 h4 h3,rfl,?_⟩
  ·rw[pB,cB rfl];rfl
  ·rw[vN,cB rfl];rfl
  ·intro z2 v2 n2 Dy f2 hf hd
   refine⟨hf.cz (Nat.le_succ _) fun r2 g2 e=>?_,?_⟩
   ·subst e
    have:=hf.below
    obtain⟨d1,d2⟩:=hd
    exact⟨by rw[pB,au (by omega),au (by omega)];rfl,by rw[vN,au (by omega)];rfl⟩
   ·match f2,hf,hd with
    |none,_,_=>trivial
    |some (r2,g2),hf,hd=>have:=hf.below;exact⟨by omega,hd.2⟩
theorem GS{b size bytes:Nat}{s:Value}{n k:Nat}{cs new:List Value}(ho:dK b size H s n cs)(hb:b≤H.next)(aj:H.lo≤b)(jG:new.length=k*size)(kS:new.all isCell=true)(bh:ed size bytes (n+k)=true):
  ∃s' H',appendT size bytes H s k new=some (s',H')∧dK b size H' s' (n+k) (cs++new)∧Grown b H H':=by
 by_cases hk:k=0
 ·subst hk
  have:new=[]:=wac (by omega)
  subst this
  have hg:Grown b H H:=⟨rfl,wy _,fun _ _=>⟨rfl,rfl⟩,fun _ _ _ _ h=>h,fun _ _ _ t _ h=>⟨t,h⟩⟩
  rw[waw]
  obtain⟨hc,ho⟩:=ho
  rcases ho with⟨rfl,rfl⟩|⟨r,rfl,h1,h2,h3⟩
  ·exact⟨_,_,rfl,⟨hc,.inl ⟨rfl,rfl⟩⟩,hg⟩
  ·refine⟨_,_,by simp only[appendT,waX,show Nat.ble n n=true from wP (wy _),wai];rfl,⟨hc,.inr ⟨r,rfl,h1,h2,h3⟩⟩,hg⟩
 ·obtain⟨H',h1,h2,h3,h4⟩:=vO (k:=k) ho hb aj hk jG kS bh
  exact⟨_,_,h1,h2,h3⟩
theorem NG{b:Nat}{H H':Heap}(h:aq H H')(hb:b≤H.next):Grown b H H':=
 ⟨h.lo,h.ag,fun x hx=>⟨h.objs x (by omega),h.grps x (by omega)⟩,fun x c t hx ho=>h.keeps hx ho,fun x c g t hx ho=>⟨t,h.keeps hx ho⟩⟩
theorem Grown.trans{b:Nat}{H H' kv:Heap}(h:Grown b H H')(h':Grown b H' kv):Grown b H kv:=
 ⟨h'.lo.trans h.lo,wK h.ag h'.ag,fun x hx=>⟨((h'.below x hx).1).trans (h.below x hx).1,((h'.below x hx).2).trans (h.below x hx).2⟩,
   fun x c t hx ho=>h'.alone x c t (wq hx h.ag) (h.alone x c t hx ho),
   fun x c g t hx ho=>let⟨t',h1⟩:=h.cells x c g t hx ho;h'.cells x c g t' (wq hx h.ag) h1⟩
structure Down(b:Nat)(H H':Heap):Prop where
 lo:H'.lo=H.lo
 ag:H.next≤H'.next
 below:∀ x,x<b→H'.objs.get x=H.objs.get x∧H'.grps.get x=H.grps.get x
theorem Grown.low{b:Nat}{H':Heap}(h:Grown b H H'):Down b H H':=⟨h.lo,h.ag,h.below⟩
def NH(b z:Nat)(H:Heap)(v:Value)(n:Nat)(cs:List Value):Prop:=
 cs.length=n*z∧∃ r g aS,v= .slice (some ⟨r,0,none⟩) n n∧b≤r∧r<H.next∧H.objs.get r=some (.row cs (some (g,z)) true)∧b≤g∧g<H.next∧H.grps.get g=some aS∧∀ x∈aS,b≤x∧x<H.next∧x≠r
theorem NH.own{b z n:Nat}{v:Value}{cs:List Value}(h:NH b z H v n cs):dK b z H v n cs:=by
 obtain⟨h0,r,g,aS,h1,h2,h3,h4,h5,h6,h7,_⟩:=h
 exact⟨h0,.inr ⟨r,h1,h2,h3,.inr ⟨g,aS,h4,h5,h6,h7⟩⟩⟩
theorem VO(new:List Value):∀ (o:Nat) (l:List Value),o+new.length≤l.length→(over new o l).length=l.length
 |0,l,h=>by rw[GU];simp;omega
 |o+1,[],h=>by simp at h
 |o+1,x::l,h=>by rw[GV,wY,wY,VO new o l (by simp at h;omega)]
theorem oY(new:List Value):∀ (o:Nat) (l:List Value),o+new.length≤l.length→over new o l=l.take o++new++l.drop (o+new.length)
 |0,l,h=>by rw[GU,wcq,wL,wau]
 |o+1,[],h=>by simp at h
 |o+1,x::l,h=>by rw[GV,oY new o l (by simp at h;omega),wch,show o+1+new.length=(o+new.length)+1 by omega,waV];rfl
def oe(H:Heap)(v:Value):Prop:=∀ a l c,v= .slice a l c→a=none∨∃ r cells g t,a=some ⟨r,0,none⟩∧r<H.next∧H.objs.get r=some (.row cells g t)
theorem oe.same{H':Heap}{v:Value}(h:oe H v)(hs:aq H H'):oe H' v:=by
 intro a l c e
 rcases h a l c e with h|⟨r,cells,g,t,h1,h2,h3⟩
 ·exact .inl h
 ·exact .inr ⟨r,cells,g,t,h1,wq h2 hs.ag,hs.keeps h2 h3⟩
theorem GW{cells:List Value}{m o z:Nat}(h:o+z≤m)(hm:m≤cells.length):cut (cells.take m) o z=cut cells o z:=by
 rw[dB,dB,wF (by simp;omega),wF (by omega),wcO,wcN,waS (by omega)]
theorem SL.Av{α:Type}{R:Heap→List Value→α→Prop}{z:Nat}{v:Value}{l:List α}(h:SL R z H v l)(hr:oe H v):∃ a c cs,v= .slice a l.length c∧cellsOf H (l.length*z) (.slice a l.length c)=some cs∧dD R z H cs l:=by
 obtain⟨a,c,rfl,cg,h⟩:=h
 refine⟨a,c,?_⟩
 match l,h with
 |[],h=>
  refine⟨[],rfl,?_,dD.nil _ _ _⟩
  rw[waA,wb2]
  rcases hr a _ c rfl with rfl|⟨r,cells,g,t,rfl,h2,h3⟩
  ·rw[NI,wF rfl]
  ·rw[Aw,h3,wo,Ax,dB,wF (by omega),wcq]
 |x::l,h=>
  obtain⟨r,o,cells,g,t,part,rfl,h2,h3,_⟩:=h 0 x rfl
  have key:∀ i y,(x::l)[i]? =some y→∃ part,cut cells (o+i*z) z=some part∧R H part y:=by
   intro i y hi
   obtain⟨r',o',cells',g',t',Ay,e,h4,h5,h6,h7⟩:=h i y hi
   simp only[wi,wcE,wcl]at e
   obtain⟨rfl,rfl⟩:=e
   rw[h3]at h5
   simp only[wi,AObj.row.injEq]at h5
   obtain⟨rfl,_,_⟩:=h5
   exact⟨Ay,h6,h7⟩
  have cn:o+(x::l).length*z≤cells.length:=by
   obtain⟨part,h4,_⟩:=key l.length _ (wj (by simp))
   obtain⟨_,h5,_⟩:=yl h4
   rw[wY,waW,wbU]
   omega
  refine⟨(cells.drop o).take ((x::l).length*z),rfl,?_,⟨?_,fun i y hi=>?_⟩⟩
  ·rw[Aw,h3,wo,Ax,dB,wF cn]
  ·simp only[wU,wbe];omega
  ·obtain⟨part,h4,h5⟩:=key i y hi
   refine⟨part,?_,h5⟩
   have eh:=(wD.1 hi).1
   have:=waQ z (show i+1≤(x::l).length by omega)
   rw[waW,wbU]at this
   rw[GW this (by simp only[wbe];omega),dB,wF (by simp only[wbe];omega),wbZ]
   rw[dB,wF (by omega)]at h4
   exact h4
theorem two(p q:Prop)[Decidable p][Decidable q]:(decide p=true∧decide q=true)∨decide p=false∨(decide p=true∧decide q=false):=by
 by_cases hp:p<;>by_cases hq:q<;>simp[hp,hq]
theorem SB{H:Heap}(r o:Nat)(new cs:List Value)(g:Nat×Nat):writeV H r o new (some (.row cs (some g) true))=H.xN r o new:=wE rfl rfl
def Dz{α β:Type}(R:Heap→List Value→α→Prop)(S:Heap→List Value→β→Prop)(z y b:Nat)(H:Heap)(v w:Value)(L:List α)(M:List β):Prop:=
 ∃c d f e,(b8 b z H v L.length c f∧dD R z H c L)∧(b8 b y H w M.length d e∧dD S y H d M)∧pA f e
section
variable{α β:Type}{R:Heap→List Value→α→Prop}{S:Heap→List Value→β→Prop}{z y b:Nat}{v w:Value}{L:List α}{M:List β}
theorem Dz.nil(b:Nat)(H:Heap):Dz R S z y b H (.slice none 0 0) (.slice none 0 0) [] []:=⟨[],[],none,none,⟨b8.nil _ _ _,dD.nil _ _ _⟩,⟨b8.nil _ _ _,dD.nil _ _ _⟩,trivial⟩
theorem Dz.first(h:Dz R S z y b H v w L M)(hl:L.length≤9223372036854775807):SL R z H v L:=by
 obtain⟨c,d,f,e,⟨a1,a2⟩,_⟩:=h
 exact a1.own.reads rfl hl a2
end
theorem Sz{E:Env}(t:TypeId)(x y:Operand)(a a':Option Addr)(l c l' c':Nat):binV E .eql t x y (.slice a l c) (.slice a' l' c')=(eqV E (99+1) t (.slice a l c) (.slice a' l' c')).bind fun r=>some (.bool r):=wE rfl rfl
theorem SA{E:Env}(t:TypeId)(x y:Operand)(a b:Bool):binV E .eql t x y (.bool a) (.bool b)=(eqV E (99+1) t (.bool a) (.bool b)).bind fun r=>some (.bool r):=wE rfl rfl
theorem ym{E:Env}{y:Value}{args:List Value}{H:Heap}{K:Value→Heap→Prop}(h:∀ H1,H1=H→af E y args H1 K):af E y args H K:=h H rfl
theorem Fb(a b c d:Value):Tr.of [a,b,c,d]=(((Tr.nil.set 0 a).set 1 b).set 2 c).set 3 d:=wE rfl rfl
theorem K0(a b c d e:Value):Tr.of [a,b,c,d,e]=((((Tr.nil.set 0 a).set 1 b).set 2 c).set 3 d).set 4 e:=wE rfl rfl
end
theorem ao{p:Prop}[Decidable p]{P R:Tok→Prop}(h1:p→P .go)(h2:¬p→R .go):boolP (decide p) P R:=⟨fun h=>h1 (wap h),fun h=>h2 (wbI h)⟩
theorem bQ{c:Bool}{P R:Tok→Prop}(h:boolP c R P):boolP (!c) P R:=by
 cases c
 ·exact⟨fun _=>h.2 rfl,fun e=>by cases e⟩
 ·exact⟨fun e=>(by cases e),fun _=>h.1 rfl⟩
theorem kV{c:Bool}{P R:Tok→Prop}(h1:c=true→P .go)(h2:c=false→R .go):boolP c P R:=⟨h1,h2⟩
structure Ko(H H':Heap):Prop where
 ag:H.next≤H'.next
 objs:∀ x,x<H.next→H'.objs.get x=H.objs.get x
 grps:∀ x,x<H.next→H'.grps.get x=H.grps.get x
section
variable{H0 H H':Heap}
theorem Ko.refl(H:Heap):Ko H H:=⟨wy _,fun _ _=>rfl,fun _ _=>rfl⟩
theorem aq.ko(h:aq H H'):Ko H H':=⟨h.ag,h.objs,h.grps⟩
theorem Ko.same(h:Ko H H')(hl:H'.lo=H.lo):aq H H':=⟨hl,h.ag,h.objs,h.grps⟩
theorem Ko.trans(h:Ko H0 H)(h':Ko H H'):Ko H0 H':=
 ⟨wK h.ag h'.ag,fun x hx=>(h'.objs x (wq hx h.ag)).trans (h.objs x hx),fun x hx=>(h'.grps x (wq hx h.ag)).trans (h.grps x hx)⟩
theorem Ko.call(h:Ko H0 H)(h':aq H H'):Ko H0 H':=h.trans h'.ko
theorem Ko.newRow(h:Ko H0 H)(c:List Value):Ko H0 (H.newRow c):=h.call (fx c)
theorem Ko.cd(h:Ko H0 H)(n:Nat):Ko H0 (H.cd n):=⟨h.ag,h.objs,h.grps⟩
theorem Ko.setRow(h:Ko H0 H){r:Nat}(hr:H0.next≤r)(c:List Value):Ko H0 (H.setRow r c):=
 ⟨h.ag,fun x hx=>by rw[aA,au (by omega)];exact h.objs x hx,h.grps⟩
theorem Ko.keeps(h:Ko H H'){r:Nat}{ob:AObj}(hr:r<H.next)(ho:H.objs.get r=some ob):H'.objs.get r=some ob:=by rw[h.objs r hr,ho]
theorem Ko.ext(h:Ko H H'):Ext H H':=⟨h.ag,fun _ _ _ t hx ho=>⟨t,h.keeps hx ho⟩⟩
end
theorem fe{b:Bool}{p:Prop}[Decidable p](h:b=true↔p):Value.bool b= .bool (decide p):=by
 cases b
 ·exact congrArg _ (wx fun hp=>by have:=h.2 hp;cases this).symm
 ·exact congrArg _ (wz (h.1 rfl)).symm
theorem KU{E:Env}{f:Value}{args:List Value}{H0 H1:Heap}{K:Value→Heap→Prop}{v:Value}(hk:Ko H0 H1)(hc:af E f args H1 fun r H'=>r=v∧aq H1 H')
  (k:∀ H2,Ko H0 H2→H2.lo=H1.lo→H1.next≤H2.next→(∀x,x<H1.next→H2.objs.get x=H1.objs.get x)→(∀x,x<H1.next→H2.grps.get x=H1.grps.get x)→K v H2):af E f args H1 K:=
 hc.mono fun _ H2 ⟨e,s⟩=>e▸k H2 (hk.call s) s.lo s.ag s.objs s.grps
theorem zA{E:Env}{sz:Nat}{c:Code}{T:Tr Value}{mk:List Nat}{ro:Option Nat}{H:Heap}{Q:Ex→Tr Value→List Nat→Heap→Prop}(h:∀ T1 H1,T1=T→H1=H→gj E sz c T1 mk ro H1 Q):gj E sz c T mk ro H Q:=h T H rfl rfl
theorem bt{E:Env}{sz:Nat}{c:Code}(hn:headNext c=none){T:Tr Value}{mk:List Nat}{ro:Option Nat}{H:Heap}{Q:Ex→Tr Value→List Nat→Heap→Prop}(I:Nat→Tr Value→Heap→Prop)(h0:∃ n0,I n0 T H)
  (step:∀ n T H,I n T H→∀ Qs:Tok→Ex→Tr Value→List Nat→Heap→Prop,Hid (∀T' H' m,m<n→I m T' H'→Qs .go .normal T' mk H')→Hid (∀T' bs H',Q .ret T' bs H'→Qs .go .ret T' bs H')→Hid (∀i T' bs H',Q (.exit i) T' bs H'→Qs .go (.exit i) T' bs H')→wp .go E sz c pf T mk ro H Qs):gj E sz (.loop c) T mk ro H Q:=
 let⟨n0,h⟩:=h0
 E9 hn I n0 h step
theorem Sg(l:List Value):cut l 0 0=some []:=by rw[dB];simp
theorem Sh(x:Value)(l:List Value)(n:Nat):cut (x::l) 0 (n+1)=(cut l 0 n).map (List.cons x):=by
 rw[dB,dB]
 by_cases h:n≤l.length
 ·rw[wF (by simp;omega),wF (by omega)];rfl
 ·rw[wI (by simp;omega),wI (by omega)];rfl
theorem Si(x:Value)(l:List Value)(o n:Nat):cut (x::l) (o+1) n=cut l o n:=by
 rw[dB,dB]
 by_cases h:o+n≤l.length
 ·rw[wF (by simp;omega),wF (by omega)];rfl
 ·rw[wI (by simp;omega),wI (by omega)]
theorem Sj{i:Int}{n:Nat}(h0:0≤i)(h:i≤n):to? i n=some i.toNat:=by rw[to_eq,wF ⟨h0,h⟩]
theorem toNat_cast(n:Nat):((n:Int)).toNat=n:=waD n
def Heap.zB(H:Heap)(r g z:Nat)(cells:List Value):Heap:={objs:=H.objs.set r (.row cells (some (g,z)) true),grps:=H.grps.set g [],next:=H.next,lo:=H.lo}
section
variable{H:Heap}
theorem KV(r g z:Nat)(c:List Value)(x:Nat):(H.zB r g z c).objs.get x=bif x==r then some (.row c (some (g,z)) true)else H.objs.get x:=by
 show(if x=r then some _ else H.objs x)=_
 by_cases h:x=r
 ·simp[h]
 ·rw[wI h,au h];rfl
theorem Sk(r g z:Nat)(c:List Value)(x:Nat):(H.zB r g z c).grps.get x=bif x==g then some []else H.grps.get x:=by
 show(if x=g then some _ else H.grps x)=_
 by_cases h:x=g
 ·simp[h]
 ·rw[wI h,au h];rfl
def Cp(H:Heap)(r o:Nat)(new:List Value)(cells:List Value)(g z:Nat):Option (List Nat)→Option Heap
 |some []=>bif decide (H.lo≤r)&&new.all isCell&&decide (o+new.length≤cells.length)then some (H.zB r g z (over new o cells))else none
 |_=>H.xN r o new
def Fa(H:Heap)(r o:Nat)(new:List Value):Option AObj→Option Heap
 |some (.row cells (some (g,z)) true)=>Cp H r o new cells g z (H.grps.get g)
 |_=>H.xN r o new
theorem KW(r o:Nat)(new cells:List Value)(g z:Nat):Fa H r o new (some (.row cells (some (g,z)) true))=Cp H r o new cells g z (H.grps.get g):=wE rfl rfl
theorem KX(r o:Nat)(new:List Value):H.xN r o new=Fa H r o new (H.objs.get r):=by
 unfold Fa
 split
 ·rename_i cells g z h
  unfold Cp
  split
  ·rename_i hg
   unfold Heap.xN Heap.write
   simp only[h,hg,tx,wo,Tr.force_eq,cC]
   by_cases h1:H.lo≤r<;>by_cases h2:new.all isCell=true<;>by_cases h3:o+new.length≤cells.length<;>simp[h1,h2,h3,Heap.zB]
  ·rfl
 ·rfl
theorem KY(x:Value)(k:Nat)(l:List Value)(h:k<l.length):over [x] k l=l.set k x:=by
 rw[oY _ _ _ (by simpa using(show k+1≤l.length from h))]
 simp only[wbJ]
 rw[List.set_eq_take_append_cons_drop,wF h]
 simp
end
def Cq(E:Env)(v:Value):Option Value:=
 match v with
 | .pointer (some _)=>some v
 | .func (.func _) _ _=>some v
 | .func (.yield _) _ _=>some v
 | .func (.via ..) _ _=>some v
 | .func (.method name) first _=>(match first.toList with
   |x::_=>(methodOf E x name).bind fun _=>some v
   |[]=>none)
 | .iface _ _=>some v
 |_=>none
section
variable{E:Env}{T:Tr Value}{H:Heap}{K:Tok→Value→Heap→Prop}
theorem Sl(x:Operand):OP .go E T (.nilCheck x) H K=optP .go (ev T x) fun t v=>optP t (Cq E v) fun t v=>K t v H:=by
 have e:∀ v:Value,(match v with
  | .pointer (some _)=>some (v,H)
  | .func (.func _) _ _=>some (v,H)
  | .func (.yield _) _ _=>some (v,H)
  | .func (.via ..) _ _=>some (v,H)
  | .func (.method name) first _=>(match first.toList with
    |x::_=>(methodOf E x name).bind fun _=>some (v,H)
    |[]=>none)
  | .iface _ _=>some (v,H)
  |_=>none)=(Cq E v).bind fun v=>some (v,H):=fun v=>by
  unfold Cq
  split<;>first|rfl|(split<;>first|rfl|(simp only[Option.bind_assoc];rfl))
 rw[fQ fun _=>rfl];simp only[exOp,fg,optP]
 congr 1
 funext v
 congr 1
 exact(congrArg (fun o=>resP .go o K) (e v)).trans (by rw[fg];simp only[fR,optP])
theorem Sm(r o:Nat):Cq E (ptr r o)=some (ptr r o):=wE rfl rfl
theorem KZ(ty:TypeId)(x i:Operand)(ok:Bool):OP .go E T (.lookup ty x i ok) H K=optP .go (ev T x) fun t x=>optP t (ev T i) fun t i=>optP t (lookupV E H ty x i ok) fun t v=>K t v H:=by
 rw[fQ fun _=>rfl];simp only[exOp,fg,fR,optP]
theorem Sn(ty:TypeId)(m k x:Operand):OP .go E T (.mapUpdate ty m k x) H K=optP .go (ev T m) fun t m=>optP t (ev T k) fun t k=>optP t (ev T x) fun t x=>optP t (mapUpdateV E H ty m k x) fun t H'=>K t undef H':=by
 rw[fQ fun _=>rfl];simp only[exOp,fg,fR,optP]
theorem So(ty:TypeId):OP .go E T (.makeMap ty none) H K=K .go (.map (some H.next)) (H.add (.map [])):=by
 rw[fQ fun _=>rfl];simp only[exOp,fR]
theorem Sp(t:TypeId)(x y:Operand)(r o:Nat):binV E .eql t x y (ptr r o) (.pointer none)=(eqV E (99+1) t (ptr r o) (.pointer none)).bind fun r=>some (.bool r):=wE rfl rfl
end
def oZ(z:Nat)(ob:Option AObj)(r o:Nat)(b:Nat×Nat×Nat)(full:Bool):Option Value:=
 match ob with
 |some (.row _ none _)=>some (.slice (some ⟨r,bif Nat.beq b.2.2 b.1 then o else o+b.1*z,none⟩) (b.2.1-b.1) (b.2.2-b.1))
 |some (.row _ (some (_,z')) _)=>bif Nat.beq z' z then some (.slice (some ⟨r,bif full&&Nat.beq b.2.2 b.1 then o else o+b.1*z,none⟩) (b.2.1-b.1) (b.2.2-b.1))else none
 |_=>none
def xO(E:Env)(H:Heap)(z r o n c:Nat)(lo hi mx:Option Value):Option Value:=bif !Nat.ble n c then none else(bounds n c lo hi mx).bind fun b=>oZ z (H.objs.get r) r o b mx.isSome
section
variable{E:Env}{T:Tr Value}{H:Heap}
theorem Sq(z r o n c:Nat)(lo hi mx:Option Value)(h:n≤c):xO E H z r o n c lo hi mx=(bounds n c lo hi mx).bind fun b=>oZ z (H.objs.get r) r o b mx.isSome:=by
 unfold xO;rw[wP h];rfl
theorem zC(z:Nat)(cs:List Value)(t:Bool)(r o l h m:Nat)(full:Bool):oZ z (some (.row cs none t)) r o (l,h,m) full=some (.slice (some ⟨r,if m=l then o else o+l*z,none⟩) (h-l) (m-l)):=by
 simp only[oZ,lM];by_cases e:m=l<;>simp[e]
theorem zD(z g:Nat)(cs:List Value)(t:Bool)(r o l h m:Nat):oZ z (some (.row cs (some (g,z)) t)) r o (l,h,m) false=some (.slice (some ⟨r,o+l*z,none⟩) (h-l) (m-l)):=by
 simp only[oZ,lM];simp
theorem Sr(len cap:Nat)(k k':IntKind)(a b:Int):bounds len cap (some (.int k a)) (some (.int k' b)) none=(to? b cap).bind fun h=>(to? a h).bind fun l=>some (l,h,cap):=wE rfl rfl
theorem Ss(len cap:Nat)(k:IntKind)(a:Int):bounds len cap (some (.int k a)) none none=(to? a len).bind fun l=>some (l,len,cap):=wE rfl rfl
theorem Su(len cap:Nat)(k:IntKind)(b:Int):bounds len cap none (some (.int k b)) none=(to? b cap).bind fun h=>some (0,h,cap):=wE rfl rfl
theorem Sv:evO T none=some none:=wE rfl rfl
theorem Sw(x:Operand):evO T (some x)=(ev T x).bind fun v=>some (some v):=wE rfl rfl
end
def Sy:=And.intro (And.intro @Sl @KZ) (And.intro @Sn @So)
def sb:=And.intro (And.intro (And.intro @Fb (And.intro @K0 @Sq)) (And.intro (And.intro @Sr @Ss) (And.intro @Su @Sv))) (And.intro (And.intro (And.intro @Sw @Sm) (And.intro @Sp @Sz)) (And.intro (And.intro @SA @SB) (And.intro @KW @KX)))
def sa:=And.intro (And.intro @waY (And.intro @Sg @Sh)) (And.intro (And.intro @Si @SC) (And.intro @Sj @toNat_cast))
def sm:=And.intro (And.intro (And.intro (And.intro @aA @aM) (And.intro @aB @aJ)) (And.intro (And.intro @aH @aI) (And.intro @aR @aP))) (And.intro (And.intro (And.intro @aL @aE) (And.intro @aK @K1)) (And.intro (And.intro @aN @aO) (And.intro @Cr @au)))
section
variable[Maps]{E:Env}{sz:Nat}
def yf(E:Env)(sz:Nat)(v:Value)(c:Code)(T:Tr Value)(mk:List Nat)(ro:Option Nat)(H:Heap)(Q:Ex→Tr Value→List Nat→Heap→Prop):Prop:=
 ∃n ex T' bs H',runHead E (run E n) v c {T,size:=sz,marks:=mk,round:=ro} H=some (ex,{T:=T',size:=sz,marks:=bs,round:=ro},H')∧Q ex T' bs H'
theorem MW{v:Value}{a b:Code}{T:Tr Value}{mk:List Nat}{ro:Option Nat}{H:Heap}{Q:Ex→Tr Value→List Nat→Heap→Prop}
  (h:yf E sz v a T mk ro H fun ex T' bs H'=>rV .go ex (fun t=>wp t E sz b pf T' bs ro H' fun _=>Q) fun _ e=>Q e T' bs H'):yf E sz v (.seq a b) T mk ro H Q:=by
 obtain⟨n,ex,T',bs,H',h1,h2⟩:=h
 cases ex with
 |normal=>
  obtain⟨n2,ua,T2,x5,H2,h3,h4⟩:=x7 b (show wp .go E sz b pf T' bs ro H' (fun _=>Q)from h2)
  refine⟨max n n2,ua,T2,x5,H2,?_,h4⟩
  simp only[runHead,vF (ku (wbP n n2)) _ h1,wo]
  exact ku (wbE n n2) _ _ _ _ h3
 |ret=>exact⟨n,.ret,T',bs,H',by simp only[runHead,h1,wo],h2⟩
 |exit id=>exact⟨n,.exit id,T',bs,H',by simp only[runHead,h1,wo],h2⟩
theorem MX{v:Value}{id:Nat}{ops:Array Oper}{o:Oper}{rest:List Oper}(ho:ops.toList=o::rest){T:Tr Value}{mk:List Nat}{ro:Option Nat}{H:Heap}{Q:Ex→Tr Value→List Nat→Heap→Prop}
  (h:jn .go sz T o.dst v fun _ T'=>wpOps .go E ops.toList pf sz rest pf T' H fun _ GB H'=>Q .normal GB mk H'):yf E sz v (.region id ops false) T mk ro H Q:=by
 have key:∀ T',(wpOps .go E ops.toList pf sz rest pf T' H fun _ GB H'=>Q .normal GB mk H')→gW sz T o.dst v=some T'→yf E sz v (.region id ops false) T mk ro H Q:=by
  intro T' hw hp
  obtain⟨n,T2,H2,h1,h2⟩:=De hw
  refine⟨n,.normal,T2,mk,H2,?_,h2⟩
  simp only[runHead,ho,hp,wo]
  rw[←ho,h1];rfl
 unfold jn at h
 cases hd:o.dst with
 |none=>rw[hd]at h;exact key T h (by simp[gW,hd])
 |some d=>
  rw[hd]at h
  have hb:Nat.blt d sz=true:=wP h.1
  exact key _ h.2 (by simp[gW,hd,hb,Tr.force_eq])
end
attribute [local instance] fnMaps
variable{E:Env}{sz:Nat}
theorem Al(t:Tmp):∀ (l:List Tmp) (T:Tr Value),(dropAll l T).get t=bif l.contains t then none else T.get t
 |[],T=>rfl
 |x::l,T=>by
  have h1:(dropAll (x::l) T).get t=bif l.contains t then none else(T.del x).get t:=Al t l (T.del x)
  have h2:(T.del x).get t=if t=x then none else T.get t:=rfl
  rw[h1,h2,List.contains_cons]
  cases l.contains t
  ·by_cases e:t=x
   ·simp[e]
   ·have:(t==x)=false:=by simpa using e
    rw[wI e,this];rfl
  ·simp
theorem MY{t:Tmp}{v:Value}:∀ {l:List (Tmp×Value)} {T:Tr Value},(∀u,(t,u)∈l→u=v)→((t,v)∈l∨T.get t=some v)→(uZ l T).get t=some v
 |[],T,_,h=>by rcases h with h|h;· simp at h
               ·exact h
 |p::l,T,hu,h=>by
  have e:(T.set p.1 p.2).get t=if t=p.1 then some p.2 else T.get t:=rfl
  refine MY (l:=l) (T:=T.set p.1 p.2) (fun u hm=>hu u (wM _ hm)) ?_
  rw[e]
  by_cases h1:t=p.1
  ·have:p.2=v:=hu p.2 (by rw[h1];exact wW ..)
   rw[wF h1,this];exact .inr rfl
  ·rw[wI h1]
   rcases h with h|h
   ·rcases wad.1 h with h|h
    ·rw[←h]at h1;exact absurd rfl h1
    ·exact .inl h
   ·exact .inr h
theorem MZ{t:Tmp}:∀ {l:List (Tmp×Value)} {T:Tr Value},(∀p∈l,p.1≠t)→(uZ l T).get t=T.get t
 |[],T,_=>rfl
 |p::l,T,h=>by
  have e:(T.set p.1 p.2).get t=if t=p.1 then some p.2 else T.get t:=rfl
  refine(MZ (l:=l) (T:=T.set p.1 p.2) fun q hq=>h q (wM _ hq)).trans ?_
  rw[e,wI (wbl (h p (wW ..)))]
theorem M0{T:Tr Value}{d:Tmp}{u:Value}(hT:T.get d=some u)(hu:plain1 u=true):∀ {l:List Tmp},d∈l→(d,u)∈rK T l
 |x::l,h=>by
  unfold rK
  rcases wad.1 h with rfl|h
  ·rw[hT];simp only[hu,wai];exact wW ..
  ·have:=M0 hT hu h
   split
   ·rename_i v _;cases plain1 v<;>first|exact this|exact wM _ this
   ·exact this
theorem M3:∀ l:List Nat,eqNats l l=true
 |[]=>rfl
 |x::l=>by simp[eqNats,M3 l]
theorem Vh{u:Value}(hu:plain1 u=true):same1 u u=true:=by
 cases u with
 |bool b=>cases b<;>rfl
 |int k n=>simp[same1,ly,gI]
 |string s=>simp[same1,mL]
 |pointer a=>cases a<;>simp[plain1]at hu<;>rfl
 |slice a l c=>cases a<;>simp[plain1]at hu<;>simp[same1]
 |map a=>cases a<;>simp[plain1]at hu<;>rfl
 |nilFunc=>rfl
 |nilIface=>rfl
 |_=>simp[plain1]at hu
theorem M4{T:Tr Value}{d:Tmp}{u:Value}(hT:T.get d=some u)(hu:plain1 u=true):∀ {l:List (Tmp×Value)},(d,u)∈l→(d,u)∈alsoIn T l
 |p::l,h=>by
  unfold alsoIn
  rcases wad.1 h with rfl|h
  ·simp only[hT,Vh hu,wai];exact wW ..
  ·have:=M4 hT hu h
   split
   ·rename_i v _;cases same1 p.2 v<;>first|exact this|exact wM _ this
   ·exact this
def Round(E:Env)(sz:Nat)(c:Code)(T0:Tr Value)(mk:List Nat)(ro:Option Nat)(H:Heap)(r:Nat)(rm n i:Nat)(e:Value×Value)(d:Tmp)(u:Value)(bad:Bool):Prop:=
 yf E sz (.tuple #[.bool true,e.1,e.2]) c T0 mk ro {objs:=(H.setObj r (.iter (some rm) n (.told i))).objs,grps:=H.grps,next:=H.next,lo:=H.next} fun ex T' bs _=>bs=mk∧(if bad then ex= .ret∧T'.get d=some u else ex= .normal)
theorem M5{c:Code}{T0:Tr Value}{mk:List Nat}{ro:Option Nat}{H:Heap}{r rm n:Nat}{d:Tmp}{u:Value}(hd:d∈writesOf c)(hu:plain1 u=true)(bad:Value×Value→Bool):∀ (es:List (Value×Value)) (i:Nat) (acc:Option (List (Tmp×Value))),
  (∀k e,es[k]? =some e→Round E sz c T0 mk ro H r rm n (i+k) e d u (bad e))→(∀l,acc=some l→(d,u)∈l)→
  ∃N o,roundsV E (run E N) c {T:=T0,size:=sz,marks:=mk,round:=ro} H r (some rm) n es i acc=some o∧(∀vs,o=some vs→(d,u)∈vs)∧(o=none↔acc=none∧∀ e∈es,bad e=false)
 |[],i,acc,_,ha=>⟨0,acc,rfl,ha,by simp⟩
 |x::es,i,acc,hr,ha=>by
  obtain⟨n1,ex,T',bs,H',h1,rfl,h2⟩:=hr 0 x rfl
  rw[waX]at h1
  have ct:∀ k e,es[k]? =some e→Round E sz c T0 bs ro H r rm n (i+1+k) e d u (bad e):=fun k e he=>by
   have:=hr (k+1) e (by simpa using he)
   rwa [show i+(k+1)=i+1+k by omega]at this
  have hk:(eqNats bs bs&&Nat.beq sz sz)=true:=by
   simp[M3]
  have step:∀ Am,(∀l,Am=some l→(d,u)∈l)→(∀N,n1≤N→roundsV E (run E N) c {T:=T0,size:=sz,marks:=bs,round:=ro} H r (some rm) n (x::es) i acc=roundsV E (run E N) c {T:=T0,size:=sz,marks:=bs,round:=ro} H r (some rm) n es (i+1) Am)→
    (Am=none↔acc=none∧bad x=false)→∃ N o,roundsV E (run E N) c {T:=T0,size:=sz,marks:=bs,round:=ro} H r (some rm) n (x::es) i acc=some o∧(∀vs,o=some vs→(d,u)∈vs)∧(o=none↔acc=none∧∀ e∈x::es,bad e=false):=by
   intro Am pg he hb
   obtain⟨n2,o,h3,h4,h5⟩:=M5 hd hu bad es (i+1) Am ct pg
   refine⟨max n1 n2,o,?_,h4,?_⟩
   ·rw[he _ (wbP n1 n2)]
    exact An (ku (wbE n1 n2)) h3
   ·rw[h5,hb]
    simp only[wad,forall_eq_or_imp,and_assoc]
  cases uh:bad x with
  |false=>
   rw[uh]at h2
   have h2:ex= .normal:=h2
   subst h2
   refine step acc ha (fun N hN=>?_) (by simp[uh])
   have:=vF (ku (E:=E) hN) _ h1
   simp only[roundsV,this,hk,wai]
  |true=>
   rw[uh]at h2
   obtain⟨h2,hT⟩:ex= .ret∧T'.get d=some u:=h2
   subst h2
   refine step (some (accRet T' (writesOf c) acc)) (fun l hl=>?_) (fun N hN=>?_) (by simp[uh])
   ·simp only[wi]at hl
    subst hl
    cases acc with
    |none=>exact M0 hT hu hd
    |some l=>exact M4 hT hu (ha l rfl)
   ·have:=vF (ku (E:=E) hN) _ h1
    simp only[roundsV,this,hk,wai]
theorem Vi{c:Code}{it:Operand}(hh:headNext c=some it){T:Tr Value}{mk:List Nat}{ro:Option Nat}{H:Heap}{Q:Ex→Tr Value→List Nat→Heap→Prop}{r rm:Nat}{es:List (Value×Value)}(d:Tmp)(u:Value)(bad:Value×Value→Bool)
  (hd:d∈writesOf c) (hu:plain1 u=true) (Ak:ev (dropAll (writesOf c) T) it=some (ptr r 0)) (hT:ev T it=some (ptr r 0)) (ho:H.objs.get r=some (.iter (some rm) es.length .start)) (hm:H.objs.get rm=some (.map es)) (aj:H.lo≤r)
  (rounds:∀ i e,es[i]? =some e→Round E sz c (dropAll (writesOf c) T) mk ro H r rm es.length i e d u (bad e))
  (fin:(∀e∈es,bad e=false)→yf E sz (.tuple #[.bool false]) c (dropAll (writesOf c) T) mk ro {objs:=H.objs.del r,grps:=H.grps,next:=H.next,lo:=H.lo} fun ex T' bs H'=>ex≠ .normal∧Q ex T' bs H')
  (ret:(∃e∈es,bad e=true)→∀ T',T'.get d=some u→(∀t,t∉writesOf c→T'.get t=T.get t)→Q .ret T' mk {objs:=H.objs.del r,grps:=H.grps,next:=H.next,lo:=H.lo}):gj E sz (.loop c) T mk ro H Q:=by
 obtain⟨N,o,h1,h2,h3⟩:=M5 (E:=E) (sz:=sz) hd hu bad es 0 none (fun k e he=>by rw[wau];exact rounds k e he) (fun l hl=>by cases hl)
 have mf:=(Ai h1 fun l hl=>by cases hl).2.1
 have Vj:xR T H it=false:=by
  unfold xR
  rw[hT]
  simp only[ptr,ho]
 have hg:(!Nat.beq es.length es.length|| !Nat.ble H.lo r)=false:=by simp[wP aj]
 have M6:∀ n,run E (n+1) (.loop c) {T,size:=sz,marks:=mk,round:=ro} H=(roundsV E (run E n) c {T:=dropAll (writesOf c) T,size:=sz,marks:=mk,round:=ro} H r (some rm) es.length es 0 none).bind fun o=>
   match o with
   |none=>(runHead E (run E n) (.tuple #[.bool false]) c {T:=dropAll (writesOf c) T,size:=sz,marks:=mk,round:=ro} {objs:=H.objs.del r,grps:=H.grps,next:=H.next,lo:=H.lo}).bind fun r=>
    match r.1 with
    | .normal=>none
    |e=>some (e,r.2)
   |some vs=>some (.ret,{T:=uZ vs (dropAll (writesOf c) T),size:=sz,marks:=mk,round:=ro},{objs:=H.objs.del r,grps:=H.grps,next:=H.next,lo:=H.lo}):=by
  intro n
  simp only[run,runWith,hh,Vj,wS,mapLoop,Tr.force_eq,Ak,wo,ptr,ho,entriesOf,hm,hg]
  rfl
 cases o with
 |none=>
  obtain⟨n2,ex,T',bs,H',h4,h5,h6⟩:=fin (h3.1 rfl).2
  refine⟨max N n2+1,ex,T',bs,H',?_,h6⟩
  have h7:=vF (ku (E:=E) (wbE N n2)) _ h4
  rw[M6,An (ku (wbP N n2)) h1,wo]
  cases ex with
  |normal=>exact absurd rfl h5
  |_=>simp only[h7,wo]
 |some vs=>
  refine⟨N+1,.ret,uZ vs (dropAll (writesOf c) T),mk,_,by rw[M6,h1];rfl,ret ?_ _ ?_ fun t ht=>?_⟩
  ·refine wbK fun hn=>?_
   have:(some vs:Option (List (Tmp×Value)))=none:=h3.2 ⟨rfl,fun e he=>by
    cases hb:bad e with
    |false=>rfl
    |true=>exact absurd ⟨e,he,hb⟩ hn⟩
   cases this
  ·refine MY (fun u' FT=>?_) (.inl (h2 vs rfl))
   obtain⟨_,MQ,Gu,Aj⟩:=Ai h1 fun l hl=>by cases hl
   obtain⟨k,e,rW,hk,H1,km,_⟩:=Aj rfl vs rfl
   obtain⟨ex,oa,⟨H2,dW,_⟩,pq⟩:=Gu k e hk
   rw[km]at dW
   cases dW
   rcases pq with h|⟨_,fh,mV,cP⟩
   ·cases h
   ·cases mV
    have e1:=cP _ FT
    have e2:=cP _ (h2 vs rfl)
    simp only at e1 e2
    rw[e1]at e2
    simpa using e2
  ·rw[MZ fun p hp (h:p.1=t)=>ht (by rw[←h];exact(mf vs rfl p hp).2),Al]
   have:(writesOf c).contains t=false:=by simpa using ht
   rw[this];rfl
end Go.AM
namespace Go.AM
section
attribute [local instance] fnMaps
variable{E:Env}{sz:Nat}
structure Yd(B:Nat)(ex:List Nat)(X X':Heap):Prop where
 lo:X'.lo=X.lo
 ag:X.next≤X'.next
 below:∀ x,x<B→x∉ex→X'.objs.get x=X.objs.get x
 grps:∀ x,x<B→X'.grps.get x=X.grps.get x
 alone:∀ x c t,x<X.next→x∉ex→X.objs.get x=some (.row c none t)→X'.objs.get x=some (.row c none t)
 cells:∀ x c g t,x<X.next→x∉ex→X.objs.get x=some (.row c g t)→∃ t',X'.objs.get x=some (.row c g t')
structure Pd(B:Nat)(X X':Heap):Prop where
 lo:X'.lo=X.lo
 ag:X.next≤X'.next
 objs:∀ x,x<B→X'.objs.get x=X.objs.get x
 grps:∀ x,x<X.next→X'.grps.get x=X.grps.get x
 bH:∀ x c g t,x<X.next→X.objs.get x=some (.row c (some g) t)→X'.objs.get x=some (.row c (some g) t)
theorem Yd.refl(B:Nat)(ex:List Nat)(X:Heap):Yd B ex X X:=⟨rfl,wy _,fun _ _ _=>rfl,fun _ _=>rfl,fun _ _ _ _ _ h=>h,fun _ _ _ t _ _ h=>⟨t,h⟩⟩
theorem Yd.trans{B:Nat}{ex:List Nat}{X Y Z:Heap}(h:Yd B ex X Y)(h':Yd B ex Y Z):Yd B ex X Z:=
 ⟨h'.lo.trans h.lo,wK h.ag h'.ag,fun x hx he=>(h'.below x hx he).trans (h.below x hx he),fun x hx=>(h'.grps x hx).trans (h.grps x hx),fun x c t hx he ho=>h'.alone x c t (wq hx h.ag) he (h.alone x c t hx he ho),
  fun x c g t hx he ho=>(h.cells x c g t hx he ho).elim fun t' h1=>h'.cells x c g t' (wq hx h.ag) he h1⟩
theorem aq.yd{B:Nat}{ex:List Nat}{X Y:Heap}(h:aq X Y)(hB:B≤X.next):Yd B ex X Y:=
 ⟨h.lo,h.ag,fun x hx _=>h.objs x (by omega),fun x hx=>h.grps x (by omega),fun x c t hx _ ho=>(h.objs x hx).trans ho,fun x c g t hx _ ho=>⟨t,(h.objs x hx).trans ho⟩⟩
theorem Yd.setRow{B:Nat}{ex:List Nat}{X Y:Heap}(h:Yd B ex X Y){r:Nat}(hr:r∈ex)(c:List Value):Yd B ex X (Y.setRow r c):=by
 have a9:∀ x,x∉ex→x≠r:=fun x hx e=>hx (e▸hr)
 exact⟨by rw[aI];exact h.lo,by rw[aJ];exact h.ag,fun x hx he=>by rw[aA,au (a9 x he)];exact h.below x hx he,fun x hx=>by rw[aO];exact h.grps x hx,fun x c t hx he ho=>by rw[aA,au (a9 x he)];exact h.alone x c t hx he ho,fun x c g t hx he ho=>by rw[aA,au (a9 x he)];exact h.cells x c g t hx he ho⟩
theorem Yd.lq{B l:Nat}{ex:List Nat}{X Y:Heap}(h:Yd B ex X Y)(hl:l∈ex)(o:AObj):Yd B ex X (Y.setObj l o):=by
 have a9:∀ x,x∉ex→x≠l:=fun x hx e=>hx (e▸hl)
 exact⟨by rw[x4];exact h.lo,by rw[oJ];exact h.ag,fun x hx he=>by rw[iw,au (a9 x he)];exact h.below x hx he,fun x hx=>by rw[vx];exact h.grps x hx,fun x c t hx he ho=>by rw[iw,au (a9 x he)];exact h.alone x c t hx he ho,fun x c g t hx he ho=>by rw[iw,au (a9 x he)];exact h.cells x c g t hx he ho⟩
theorem Yd.more{B:Nat}{ex Mh:List Nat}{X Y:Heap}(h:Yd B ex X Y)(hs:∀ x∈ex,x∈Mh):Yd B Mh X Y:=
 ⟨h.lo,h.ag,fun x hx he=>h.below x hx fun hh=>he (hs x hh),h.grps,fun x c t hx he=>h.alone x c t hx fun hh=>he (hs x hh),fun x c g t hx he=>h.cells x c g t hx fun hh=>he (hs x hh)⟩
theorem Yd.grown{B b:Nat}{ex:List Nat}{X Y Z:Heap}(h:Yd B ex X Y)(g:Grown b Y Z)(hb:B≤b):Yd B ex X Z:=
 h.trans ⟨g.lo,g.ag,fun x hx _=>(g.below x (by omega)).1,fun x hx=>(g.below x (by omega)).2,fun x c t hx _ ho=>g.alone x c t hx ho,fun x c gg t hx _ ho=>g.cells x c gg t hx ho⟩
theorem Pd.trans{B:Nat}{X Y Z:Heap}(h:Pd B X Y)(h':Pd B Y Z):Pd B X Z:=
 ⟨h'.lo.trans h.lo,wK h.ag h'.ag,fun x hx=>(h'.objs x hx).trans (h.objs x hx),fun x hx=>(h'.grps x (wq hx h.ag)).trans (h.grps x hx),fun x c g t hx ho=>h'.bH x c g t (wq hx h.ag) (h.bH x c g t hx ho)⟩
theorem aq.pd{B:Nat}{X Y:Heap}(h:aq X Y)(hB:B≤X.next):Pd B X Y:=
 ⟨h.lo,h.ag,fun x hx=>h.objs x (by omega),h.grps,fun x c g t hx ho=>(h.objs x hx).trans ho⟩
theorem Pd.setRow{B:Nat}{X Y:Heap}(h:Pd B X Y){r:Nat}(hr:B≤r)(ha:∃ c0 t0,Y.objs.get r=some (.row c0 none t0))(c:List Value):Pd B X (Y.setRow r c):=by
 refine h.trans ⟨rfl,wy _,fun x hx=>by rw[aA,au (by omega)];rfl,fun x _=>by rw[aO],fun x c1 g t hx ho=>?_⟩
 have:x≠r:=fun e=>by subst e;obtain⟨c0,t0,h0⟩:=ha;rw[h0]at ho;cases ho
 rw[aA,au this];exact ho
def jl(b:Nat)(v:Value):Prop:=∀ a n c,v= .slice a n c→a=none∨∃ r,a=some ⟨r,0,none⟩∧b≤r
theorem jl.nil(b n c:Nat):jl b (.slice none n c):=fun a _ _ e=>by cases e;exact .inl rfl
theorem jl.mk(b r n c:Nat)(h:b≤r):jl b (.slice (some ⟨r,0,none⟩) n c):=fun a _ _ e=>by cases e;exact .inr ⟨r,rfl,h⟩
theorem jl.le{b b':Nat}{v:Value}(h:jl b v)(hb:b'≤b):jl b' v:=fun a n c e=>(h a n c e).elim .inl fun⟨r,h1,h2⟩=> .inr ⟨r,h1,by omega⟩
theorem SL.yd{α:Type}{R:Heap→List Value→α→Prop}(hR:∀ X X' part x,R X part x→R X' part x){z B:Nat}{ex:List Nat}{X X':Heap}{v:Value}{l:List α}(h:SL R z X v l)(hf:jl B v)(hex:∀ x:Nat,x∈ex→x<B)(y:Yd B ex X X'):SL R z X' v l:=by
 obtain⟨a,cap,rfl,hc,hl⟩:=h
 refine⟨a,cap,rfl,hc,fun i x hx=>?_⟩
 obtain⟨r,o,cells,g,t,part,rfl,h1,h2,h3,h4⟩:=hl i x hx
 rcases hf _ _ _ rfl with hn|⟨r',hr,hb⟩
 ·cases hn
 ·cases hr
  obtain⟨t',h5⟩:=y.cells r cells g t h1 (fun hh=>by have:=hex r hh;omega) h2
  exact⟨r,0,cells,g,t',part,rfl,wq h1 y.ag,h5,h3,hR _ _ _ _ h4⟩
structure fV(H:Heap)(ex:List Nat)(X:Heap):Prop where
 lo:X.lo=H.lo
 ag:H.next+2≤X.next
 vy:X.objs.get H.next=some .defers
 objs:∀ x,x<H.next→x∉ex→X.objs.get x=H.objs.get x
 grps:∀ x,x<H.next→X.grps.get x=H.grps.get x
theorem fV.pd{H:Heap}{ex:List Nat}{X X':Heap}(h:fV H ex X)(p:Pd (H.next+2) X X'):fV H ex X':=
 ⟨p.lo.trans h.lo,wK h.ag p.ag,(p.objs _ (by omega)).trans h.vy,fun x hx he=>(p.objs x (by omega)).trans (h.objs x hx he),fun x hx=>(p.grps x (by have:=h.ag;omega)).trans (h.grps x hx)⟩
theorem fV.yd{H:Heap}{ex:List Nat}{X X':Heap}(h:fV H ex X)(hex:∀ x∈ex,x<H.next)(p:Yd (H.next+2) ex X X'):fV H ex X':=
 ⟨p.lo.trans h.lo,wK h.ag p.ag,(p.below _ (by omega) fun hh=>by have:=hex _ hh;omega).trans h.vy,fun x hx he=>(p.below x (by omega) he).trans (h.objs x hx he),fun x hx=>(p.grps x (by omega)).trans (h.grps x hx)⟩
theorem fV.lq{H:Heap}{ex:List Nat}{X:Heap}(h:fV H ex X)(o:AObj):fV H ex (X.setObj (H.next+1) o):=
 ⟨by rw[x4];exact h.lo,by rw[oJ];exact h.ag,by rw[iw,au (by omega)];exact h.vy,fun x hx he=>by rw[iw,au (by omega)];exact h.objs x hx he,fun x hx=>by rw[vx];exact h.grps x hx⟩
structure pw(l:Nat)(X X':Heap):Prop where
 lo:X'.lo=X.lo
 next:X'.next=X.next
 objs:∀ x,x≠l→X'.objs.get x=X.objs.get x
 grps:∀ x,X'.grps.get x=X.grps.get x
theorem pw.lq(l:Nat)(X:Heap)(o:AObj):pw l X (X.setObj l o):=⟨x4 ..,oJ ..,fun x hx=>by rw[iw,au hx];rfl,fun x=>by rw[vx]⟩
theorem UE{l s:Nat}{eQ:Option Code}{T0 T:Tr Value}{ps:List Tmp}{as bo:Code}{de:Nat}{args:List Value}{H:Heap}{K:Value→Heap→Prop}
  (ho:E.orc (.func (.yield l) #[] #[]) args H=none) (hg:H.objs.get l=some (.loop .ready eQ s T0 ps as bo de)) (hl:H.lo≤l) (hp:paramsT s ps args T0=some T)
  (h:gj E s as T [] (some l) H fun ex T' bs H'=>ex= .normal∧∃ H1,H'.setLoop l true .busy none=some H1∧gj E s bo T' bs (some l) H1 fun ex _ _ H2=>UF l H2 K ex):
  af E (.func (.yield l) #[] #[]) args H K:=by
 obtain⟨n1,ex1,T1,F4,H1,r1,rfl,H1',b1,h⟩:=h
 obtain⟨n2,ua,T2,x5,H2,r2,h⟩:=h
 have Mi:=ku (wbP n1 n2) _ _ _ _ r1
 have Mj:=ku (wbE n1 n2) _ _ _ _ r2
 have ia:Nat.ble H.lo l=true:=by simpa using hl
 refine⟨max n1 n2,?_⟩
 unfold fS
 rw[ho]
 cases ua with
 |exit i=>exact h.elim
 |normal=>
  obtain⟨H3,b3,k⟩:=h
  refine⟨_,H3,?_,k⟩
  simp only[callBody,target,wo,hg,ia,wa7,wS,wL,Array.toList_empty,hp,Mi,b1,Mj,b3]
 |ret=>
  obtain⟨H3,b3,k⟩:=h
  refine⟨_,H3,?_,k⟩
  simp only[callBody,target,wo,hg,ia,wa7,wS,wL,Array.toList_empty,hp,Mi,b1,Mj,b3]
theorem CO{α:Type}{f:Operand}{p:Tmp}{as bo:Code}{T:Tr Value}{mk:List Nat}{H:Heap}{Q:Ex→Tr Value→List Nat→Heap→Prop}{g:FuncId}{first cap:Array Value}
  (enc:α→Value) (xs:List α) (J:List α→Heap→Prop) (R:Heap→Prop) (ex:List Nat) (hex:∀ x:Nat,x∈ex→x<H.next) (aj:H.lo≤H.next)
  (h0:ev T f=some (.func (.func g) first cap)) (hp:p<sz)
  (ho:∀ a X,E.orc (.func (.func g) first cap) [a] X=none) (UG:∀ l a X,E.orc (.func (.yield l) #[] #[]) [a] X=none)
  (UH:∀ rest X X',J rest X→fV H ex X→Pd (H.next+2) X X'→J rest X') (Mk:∀ rest X X',J rest X→pw (H.next+1) X X'→J rest X') (Ml:∀ X X',R X→pw (H.next+1) X X'→R X')
  (h1:∀ X,fV H ex X→aq H X→J xs X)
  (iter:∀ (y:Value) (I:List α→Heap→Prop) (F:Heap→Prop) (H1:Heap),aq H H1→H1.next=H.next+2→(∀rest X X',I rest X→Pd (H.next+2) X X'→I rest X')→(∀rest X,I rest X→fV H ex X)→
   (∀v rest X,I (v::rest) X→af E y [enc v] X fun r X'=>(r= .bool true∧I rest X'∧Yd (H.next+2) ((H.next+1)::ex) X X')∨(r= .bool false∧F X'))→I xs H1→af E (.func (.func g) first cap) [y] H1 fun _ X=>I [] X∨F X)
  (body:∀ v rest X,J (v::rest) X→fV H ex X→wp .go E sz as pf (T.set p (enc v)) [] (some (H.next+1)) X fun _ e T1 F4 X1=>e= .normal∧F4=[]∧aq X X1∧∀ X2,pw (H.next+1) X1 X2→wp .go E sz bo pf T1 [] (some (H.next+1)) X2 fun _ e2 _ _ X3=>Yd (H.next+2) ex X2 X3∧((e2= .normal∧J rest X3)∨(e2= .ret∧R X3)))
  (fin:∀ X,J [] X→fV H ex X→Q .normal T (H.next::mk) X) (ret:∀ X,R X→fV H ex X→Q .ret T (H.next::mk) X):gj E sz (.rangeFunc f #[p] as bo) T mk none H Q:=by
 refine UI h0 (ho _ _) ?_
 have n1:(H.qz sz T [p] as bo).next=H.next+2:=by rw[Heap.qz,ja,ja]
 have s1:aq H (H.qz sz T [p] as bo):=(Aa _ _).trans (Aa _ _)
 have r1:(H.qz sz T [p] as bo).objs.get (H.next+1)=some (.loop .ready none sz T [p] as bo H.next):=by rw[Heap.qz,px,ja,cB rfl];rfl
 have d1:(H.qz sz T [p] as bo).objs.get H.next=some .defers:=by rw[Heap.qz,px,ja,au (by omega),wS,px,cB rfl];rfl
 have x6:fV H ex (H.qz sz T [p] as bo):=⟨s1.lo,by omega,d1,fun x hx _=>s1.objs x hx,s1.grps⟩
 have hl:H.next+1∉ex:=fun hh=>by have:=hex _ hh;omega
 refine(iter (.func (.yield (H.next+1)) #[] #[])
  (fun rest X=>J rest X∧X.objs.get (H.next+1)=some (.loop .ready none sz T [p] as bo H.next)∧fV H ex X)
  (fun X=>R X∧X.objs.get (H.next+1)=some (.loop .done (some .ret) sz T [p] as bo H.next)∧fV H ex X) _ s1 n1 ?_ (fun _ _ h=>h.2.2) ?_ ⟨h1 _ x6 s1,r1,x6⟩).mono ?_
 ·rintro rest X X' ⟨a,b,c⟩ pd
  exact⟨UH rest X X' a c pd,(pd.objs _ (by omega)).trans b,c.pd pd⟩
 ·rintro v rest X ⟨a,b,c⟩
  have hb:Nat.blt p sz=true:=wP hp
  refine UE (UG _ _ _) b (by have:=c.lo;omega) (T:=T.set p (enc v)) (by simp only[paramsT,hb,wai]) ?_
  refine(x7 as (body v rest X a c)).mono ?_
  rintro e T1 F4 X1 ⟨rfl,rfl,sx,k⟩
  have b1:X1.objs.get (H.next+1)=some (.loop .ready none sz T [p] as bo H.next):=sx.keeps (by have:=c.ag;omega) b
  refine⟨rfl,_,UJ b1,?_⟩
  refine(x7 bo (k _ (pw.lq _ X1 _))).mono ?_
  rintro e2 T3 mk3 X3 ⟨yd,hq⟩
  have b3:X3.objs.get (H.next+1)=some (.loop .busy none sz T [p] as bo H.next):=by rw[yd.below _ (by omega) hl,iw,cB rfl];rfl
  have c1:fV H ex X1:=c.pd (sx.pd c.ag)
  have c3:fV H ex X3:=(c1.lq _).yd hex yd
  have y4:∀ o,Yd (H.next+2) ((H.next+1)::ex) X (X3.setObj (H.next+1) o):=fun o=>
   (((sx.yd c.ag).lq (wW ..) _).trans (yd.more fun x hx=>wM _ hx)).lq (wW ..) _
  rcases hq with⟨rfl,hJ⟩|⟨rfl,hR⟩
  ·exact⟨_,Mm b3,.inl ⟨rfl,⟨Mk _ _ _ hJ (pw.lq _ X3 _),by rw[iw,cB rfl];rfl,c3.lq _⟩,y4 _⟩⟩
  ·exact⟨_,Mm b3,.inr ⟨rfl,Ml _ _ hR (pw.lq _ X3 _),by rw[iw,cB rfl];rfl,c3.lq _⟩⟩
 ·rintro v X (⟨a,b,c⟩|⟨a,b,c⟩)
  ·exact⟨_,_,b,by simp,.inl ⟨rfl,fin _ (Mk _ _ _ a (pw.lq _ X _)) (c.lq _)⟩⟩
  ·exact⟨_,_,b,by simp,.inr ⟨rfl,ret _ (Ml _ _ a (pw.lq _ X _)) (c.lq _)⟩⟩
end
section
variable[Maps]{B lo0:Nat}{m:Match}{H:Heap}{w:World}{E:Env}
theorem UX(hE:EnvOk E){g:FuncId}{fn:Func}{c:Code}{args:List Value}{bF:Array Value}{v:Value}(h1:E.fn.get g=some fn)(h2:fn.body=some c)(h3:args.length≤fn.ntmps)
  (h:Ends E fn [c] {T:=Tr.of args,size:=fn.ntmps,marks:=[],round:=none} H v) (hv:∀ m v',VRel m v v'→v'=v) (hR:Rel B H.lo m H w) (ha:LRel m args bF.toList):
  Calls E.P g bF w fun e w'=>e= .returned v∧Old B w w':=by
 rw[←callsIn_wide (n:=0)]
 have hf:=hE.fn g fn h1
 refine wcQ hf h2 trivial ?_
 have cQ:gG m {T:=Tr.of args,size:=fn.ntmps,marks:=[],round:=none} {tmps:=bF++Array.replicate (fn.ntmps-bF.size) undef,defers:=[]} none:=by
  refine⟨fun t v hv=>?_,?_,trivial,fun _=>rfl⟩
  ·obtain⟨v',e1,e2⟩:=ha.get (Tr.zE hv)
   have:t<bF.size:=by simpa using(wD.1 e1).1
   exact⟨v',by rw[wcb this];simpa using e1,e2⟩
  ·have:=ha.1
   simp at this ⊢;omega
 have one:c.wpIn (fj none) 0 E.P (Fin E fn B H.lo w v) {tmps:=bF++Array.replicate (fn.ntmps-bF.size) undef,defers:=[]} w:=
  waJ (h B m _ w hR cQ) fun e a' w' he=>by cases e<;>exact he
 refine waJ one fun e a' w' hp=>?_
 obtain⟨he,hold,m',H',bq,t,vs,hl,nW,dZ,hk,hr,hp⟩:=hp
 have tz:LeavesInM Fence.wide 0 E.P fn a'.tmps (fun e fE=>e= .returned v∧Old B w fE) a'.defers .returning w':=by
  refine Cv (B:=B) (lo0:=H.lo) bq.marks a'.defers H' w' t dZ.marks nW (by rw[hl];exact hk) fun fE iv=>?_
  obtain⟨v',r1,r2⟩:=Fg hE iv.rel dZ.tmps hr
  rw[hp]at r2
  refine⟨v',r1,by rw[hv m' v' r2],hold.trans ?_⟩
  refine⟨fun b hb=>iv.frame b (wq hb nW.base) fun r p Gg lu iy=>?_,iv.size,iv.os⟩
  have:=(nW.dom r p Gg).2.2.1 (by rw[←hl];exact lu)
  omega
 rcases he with rfl|rfl
 ·exact tz
 ·exact tz
theorem calls_of_callA(hE:EnvOk E)(hO:OrcOk E){g:FuncId}{fn:Func}{c:Code}{args:List Value}{bF:Array Value}{v:Value}(ho:E.orc (.func (.func g) #[] #[]) args H=none)(h1:E.fn.get g=some fn)(h2:fn.body=some c)
  (h:af E (.func (.func g) #[] #[]) args H fun v' _=>v'=v) (hv:∀ m v',VRel m v v'→v'=v) (hR:Rel B H.lo m H w) (ha:LRel m args bF.toList):
  Calls E.P g bF w fun e w'=>e= .returned v∧Old B w w':=by
 obtain⟨n,v',H',h4,h5⟩:=h
 subst h5
 unfold fS at h4
 rw[ho]at h4
 simp only[callBody,target,waw,wL,wo,h1,h2]at h4
 obtain⟨h3,h4⟩:=cM h4
 simp only[we]at h4
 obtain⟨r,h6,h7⟩:=h4
 have cp:args.length≤fn.ntmps:=by
  simp only[waM]at h3
  exact wan h3
 have jF:endN E n fn [c] {T:=Tr.of args,size:=fn.ntmps,marks:=[],round:=none} H=some v':=by
  obtain⟨ex,fr,H2⟩:=r
  unfold endN
  cases ex with
  |exit i=>simp at h7
  |normal=>
   simp only[Tr.force_eq,we,wi,wk]at h7
   obtain⟨t,h8,vs,h9,aY,_⟩:=h7
   simp only[runL,h6,wo,h8,h9,aY]
  |ret=>
   simp only[Tr.force_eq,we,wi,wk]at h7
   obtain⟨t,h8,vs,h9,aY,_⟩:=h7
   simp only[runL,h6,wo,h8,h9,aY]
 exact UX hE h1 h2 cp (Ends.last hE hO jF) hv hR ha
end
end Go.AM
