/-
  Walks over letters of the functions that the law reaches; written small by a program of mine.
-/
import Derived.Test.YtjgppeeplkidpaaGreatAMb
import Derived.LoopNIn
import Derived.TacticsIn
import Derived.Maps.RangeRun
import Derived.OpenShut
import Derived.ProofKit
import Derived.Carry
set_option linter.unusedSimpArgs false
set_option linter.unusedVariables false
set_option linter.unusedSectionVars false
namespace Go.AM
section
theorem Vk{es:Array MapEntry}{seen:Array Nat}(h:(leftOf es seen).size=0){e:MapEntry}(he:e∈es.toList):e.born∈seen.toList:=by
 cases hc:seen.contains e.born with
 |true=>exact Array.mem_toList_iff.2 (by simpa using hc)
 |false=>
  have:e∈leftOf es seen:=Array.mem_filter.2 ⟨Array.mem_toList_iff.1 he,by rw[hc];rfl⟩
  have:=Array.size_pos_of_mem this
  omega
theorem VRel.Vl{m m':Match}{v v':Value}(h:plain1 v=true)(hv:VRel m v v'):VRel m' v v':=by
 cases hv<;>first|(simp[plain1]at h;done)|constructor
variable[Maps]{B lo0:Nat}{m:Match}{H:Heap}{w:World}{E:Env}
end
section
variable{B lo0:Nat}{m:Match}{w:World}{P:Program}
theorem MB:∀ {a b:List Nat},eqNats a b=true→a=b
 |[],[],_=>rfl
 |x::a,y::b,h=>by
  simp only[eqNats,wA,wbp]at h
  rw[h.1,MB h.2]
 |[],_::_,h=>by simp[eqNats]at h
 |_::_,[],h=>by simp[eqNats]at h
theorem mT.back{m m':Match}(h:m.le m'):∀ {rs:List Nat} {ds Dn:List Deferred},mT m rs ds→mT m' rs Dn→mT m rs Dn
 |[],[],[],_,_=>trivial
 |_::_,_::_,_::_,⟨⟨p,h1,_⟩,h3⟩,⟨⟨q,h4,h5⟩,h6⟩=>by
  have:=h _ _ h1
  rw[h4]at this
  cases this
  exact⟨⟨p,h1,h5⟩,h3.back h h6⟩
end
section
variable[Maps]{B lo0:Nat}{m:Match}{H:Heap}{w:World}{E:Env}
theorem G6{v:Value}{t:Tmp}:∀ {l:List Tmp} {T:Tr Value},(dropAll l T).get t=some v→t∉l∧T.get t=some v
 |[],T,h=>⟨by simp,h⟩
 |x::l,T,h=>by
  obtain⟨h1,h2⟩:=G6 (l:=l) h
  obtain⟨h3,h4⟩:=Tr.jf h2
  exact⟨by simp[h1,h3],h4⟩
theorem Rel.hold(hR:Rel B lo0 m H w){H':Heap}{w':World}(bf:w.heap.size≤w'.heap.size)(hq:∀ b,b<B→w'.heap[b]? =w.heap[b]?)(hb:∀ r p o,m r=some p→H'.objs.get r=some o→w'.heap[p.ax]? =w.heap[p.ax]?)
  (lx:∀ r o,H'.objs.get r=some o→H.objs.get r=some o) (hg:H'.grps=H.grps) (hn:H'.next=H.next) (hl:lo0≤H'.lo) (fL:H'.lo≤H.next):Rel B lo0 m H' w' where
 base:=wK hR.base bf
 fJ:=hR.yk hq
 lo:=hl
 ag:=by rw[hn];exact fL
 dom r p h:=by obtain⟨a,b,c,d⟩:=hR.dom r p h;exact⟨by rw[hn];exact a,wq b bf,c,d⟩
 obj r p o h ho:=(hR.obj r p o h (lx r o ho)).mono m.le_refl (hb r p o h ho)
 sep r r' p p' o o' aX an h h' ho bJ he:=hR.sep r r' p p' o o' aX an h h' (lx _ _ ho) (lx _ _ bJ) he
 dw r r' p p' c c' g z z' h h' ho bJ:=hR.dw r r' p p' c c' g z z' h h' (lx _ _ ho) (lx _ _ bJ)
 aT r p c g z h ho l AP:=hR.aT r p c g z h (lx _ _ ho) l (by rw[←hg];exact AP)
 ends r r' p p' c c' g z z' t h h' ho bJ he:=hR.ends r r' p p' c c' g z z' t h h' (lx _ _ ho) (lx _ _ bJ) he
 bK r p c g z t h ho:=by rw[hn];exact hR.bK r p c g z t h (lx _ _ ho)
theorem MC(hE:EnvOk E)(hO:OrcOk E){run:Code→Fr→Heap→Option (Ex×Fr×Heap)}(bG:oD E run){it:Operand}{v v':Value}{w₁:World}:∀ (c:Code),headNext c=some it→
  ∀(fr:Fr) (H:Heap) (ex:Ex) (bl:Fr) (H':Heap) (m:Match) (a:Act) (w:World) (ro:Option Nat),runHead E run v c fr H=some (ex,bl,H')→(∀ty,(Instr.next (a.eval it) false ty).run E.P w= .ok v' w₁)→Rel B lo0 m H w₁→VRel m v v'→gB m fr a ro→
  c.wpIn (fg ro) 0 E.P (fU B lo0 m H w₁ c a ro ex bl H') a w:=by
 intro c
 induction c with
 |seq x y G7 MD=>
  intro hi fr H ex bl H' m a w ro h hn hR hv hf
  simp only[runHead,we]at h
  obtain⟨⟨cI,dV,H₁⟩,h1,h2⟩:=h
  refine wpIn_seq (waJ (G7 hi fr H _ _ _ m a w ro h1 hn hR hv hf) fun e a₁ w₂ ⟨he,m₁,hg,fE,ht⟩=>?_)
  subst he
  by_cases hex:cI= .normal
  ·subst hex
   refine waJ (bG y dV H₁ _ _ _ h2 B lo0 m₁ a₁ w₂ ro hg.rel fE) fun e a' w' ⟨h5,m',h6,h7,h8⟩=>?_
   exact⟨h5,m',hg.trans h6,h7,fun t h'=>(h8 t fun h=>h' (by simp[writesOf,h])).trans (ht t fun h=>h' (by simp[writesOf,h]))⟩
  ·have h3:cI=ex∧dV=bl∧H₁=H':=by cases cI<;>simp_all
   obtain⟨rfl,rfl,rfl⟩:=h3
   have:fU B lo0 m H w₁ (.seq x y) a ro cI dV H₁ cI.to a₁ w₂:=⟨rfl,m₁,hg,fE,fun t h'=>ht t fun h=>h' (by simp[writesOf,h])⟩
   cases cI with
   |normal=>exact absurd rfl hex
   |_=>exact this
 |region id ops rQ=>
  intro hi fr H ex bl H' m a w ro h hn hR hv hf
  cases rQ with
  |true=>simp[headNext]at hi
  |false=>
   simp only[headNext]at hi
   simp only[runHead]at h
   cases hl:ops.toList with
   |nil=>rw[hl]at h;simp at h
   |cons o rest=>
    rw[hl]at h hi
    simp only[we,wi,wk]at h
    obtain⟨T,h1,⟨T',H₁⟩,h2,rfl,rfl,rfl⟩:=h
    have ho:ops[0]? =some o:=by rw[←wao,hl];rfl
    have bW:o.op= .next it false∧o.guard=none:=by
     simp only at hi
     split at hi
     ·rename_i rM h5 h6
      simp only[wi]at hi
      subst hi
      exact⟨h5,h6⟩
     ·simp at hi
    apply wpIn_region
    have bf:ops.size=rest.length+1:=by rw[←waF,hl];rfl
    rw[wcL,bf,List.range'_succ]
    have hw:Region.wanted o (yielded ops a.tmps)=true:=by simp[Region.wanted,bW.2]
    simp only[wpOpsIn,ho,hw,wah]
    refine⟨yh,?_⟩
    rw[Oper.semAt_eq _ _ _ (fun c hc=>by rw[bW.1]at hc;cases hc)]
    have iQ:(execOp a.eval o).run E.P w= .ok (.value v') w₁:=by
     simp only[execOp,bW.1,wB,hn,wu,wC]
    rw[iQ,Oper.uponIn_value]
    obtain⟨p1,p2,p3,p4⟩:=Da (a:=a) h1 hf.tmps hf.size hv
    refine DF hE (F1 hE hO bG) rest (0+1) (fun j=>by rw[←wao,hl,show 0+1+j=j+1 by omega];simp) T H T' H₁ _ w₁ m (by rw[hl];exact h2) hR p1 p2 fun a' w' m' hg q1 q2 q3 q4=>?_
    refine⟨rfl,m',hg,⟨q1,q2,by rw[q3,p3];exact hf.marks.mono hg.le,hf.round⟩,fun t ht=>?_⟩
    have cf:∀ o'∈ops.toList,o'.dst≠some t:=fun o' bJ hd=>ht (by
     simp only[writesOf,wcz]
     exact⟨o',bJ,hd⟩)
    rw[hl]at cf
    exact(q4 t fun o' bJ=>cf o' (wM _ bJ)).trans (p4 t (cf o (wW ..)))
 |_=>intro hi;simp[headNext]at hi
theorem Rel.other(hR:Rel B lo0 m H w){r:Nat}{p:dO}{o o':AObj}(hm:m r=some p)(hr:lo0≤r)(ho:H.objs.get r=some o)(eA:∀ c g t,o≠ .row c g t)(uc:∀ c g t,o'≠ .row c g t){H':Heap}{w':World}
  (bf:w.heap.size≤w'.heap.size) (hb:∀ b,b<w.heap.size→b≠p.ax→w'.heap[b]? =w.heap[b]?) (dg:iP (decide (lo0≤r)) m p w' o') (iE:∀ j x,H'.objs.get j=some x→(j=r∧x=o')∨(j≠r∧H.objs.get j=some x))
  (hg:H'.grps=H.grps) (hn:H'.next=H.next) (hl:lo0≤H'.lo) (fL:H'.lo≤H.next):Rel B lo0 m H' w' where
 base:=wK hR.base bf
 fJ:=hR.yk fun b hlt=>hb b (wq hlt hR.base) fun e=>by have:=(hR.dom r p hm).2.2.1 hr;omega
 lo:=hl
 ag:=by rw[hn];exact fL
 dom j q h:=by obtain⟨a,b,c,d⟩:=hR.dom j q h;exact⟨by rw[hn];exact a,wq b bf,c,d⟩
 obj j q x h hx:=by
  rcases iE j x hx with⟨rfl,rfl⟩|⟨hj,hx⟩
  ·rw[hm]at h;cases h;exact dg
  ·refine(hR.obj j q x h hx).mono m.le_refl (hb _ (hR.dom j q h).2.1 fun gT=>?_)
   have:=hR.sep r j p q o x (wbl hj) hr hm h ho hx gT.symm
   cases o<;>first|(exact absurd rfl (eA _ _ _))|simp[Mates]at this
 sep j j' q q' x x' aX Vm h h' hx cu he:=by
  rcases iE j x hx with⟨rfl,rfl⟩|⟨hj,hx⟩<;>rcases iE j' x' cu with⟨rfl,rfl⟩|⟨pA,cu⟩
  ·exact absurd rfl aX
  ·have:=hR.sep j j' q q' o x' aX hr h h' ho cu he
   cases o<;>first|(exact absurd rfl (eA _ _ _))|simp[Mates]at this
  ·have:=hR.sep j' j q' q o x (wbl aX) hr h' h ho hx he.symm
   cases o<;>first|(exact absurd rfl (eA _ _ _))|simp[Mates]at this
  ·exact hR.sep j j' q q' x x' aX Vm h h' hx cu he
 dw j j' q q' c c' g z z' h h' hx cu:=by
  rcases iE j _ hx with⟨_,h1⟩|⟨_,hx⟩
  ·exact absurd h1.symm (uc _ _ _)
  ·rcases iE j' _ cu with⟨_,h1⟩|⟨_,cu⟩
   ·exact absurd h1.symm (uc _ _ _)
   ·exact hR.dw j j' q q' c c' g z z' h h' hx cu
 aT j q c g z h hx l AP:=by
  rcases iE j _ hx with⟨_,h1⟩|⟨_,hx⟩
  ·exact absurd h1.symm (uc _ _ _)
  ·exact hR.aT j q c g z h hx l (by rw[←hg];exact AP)
 ends j j' q q' c c' g z z' t h h' hx cu he:=by
  rcases iE j _ hx with⟨_,h1⟩|⟨_,hx⟩
  ·exact absurd h1.symm (uc _ _ _)
  ·rcases iE j' _ cu with⟨_,h1⟩|⟨_,cu⟩
   ·exact absurd h1.symm (uc _ _ _)
   ·exact hR.ends j j' q q' c c' g z z' t h h' hx cu he
 bK j q c g z t h hx:=by
  rcases iE j _ hx with⟨_,h1⟩|⟨_,hx⟩
  ·exact absurd h1.symm (uc _ _ _)
  ·rw[hn];exact hR.bK j q c g z t h hx
theorem DG{T:Tr Value}{p:Tmp×Value}:∀ {l:List Tmp},p∈rP T l→T.get p.1=some p.2∧plain1 p.2=true∧p.1∈l
 |[],h=>by simp[rP]at h
 |d::l,h=>by
  unfold rP at h
  split at h
  ·rename_i v hv
   cases hp:plain1 v with
   |true=>
    rw[hp,wai,wad]at h
    rcases h with rfl|h
    ·exact⟨hv,hp,wW ..⟩
    ·obtain⟨h1,h2,h3⟩:=DG h;exact⟨h1,h2,wM _ h3⟩
   |false=>
    rw[hp,wS]at h
    obtain⟨h1,h2,h3⟩:=DG h;exact⟨h1,h2,wM _ h3⟩
  ·obtain⟨h1,h2,h3⟩:=DG h;exact⟨h1,h2,wM _ h3⟩
theorem AQ{T:Tr Value}{p:Tmp×Value}:∀ {l:List (Tmp×Value)},p∈alsoIn T l→T.get p.1=some p.2∧p∈l
 |[],h=>by simp[alsoIn]at h
 |q::l,h=>by
  unfold alsoIn at h
  split at h
  ·rename_i v hv
   cases hp:same1 q.2 v with
   |true=>
    rw[hp,wai,wad]at h
    rcases h with rfl|h
    ·exact⟨by rw[hv,G8 hp],wW ..⟩
    ·obtain⟨h1,h2⟩:=AQ h;exact⟨h1,wM _ h2⟩
   |false=>
    rw[hp,wS]at h
    obtain⟨h1,h2⟩:=AQ h;exact⟨h1,wM _ h2⟩
  ·obtain⟨h1,h2⟩:=AQ h;exact⟨h1,wM _ h2⟩
theorem ME{t:Tmp}{v:Value}:∀ {l:List (Tmp×Value)} {T:Tr Value},(uS l T).get t=some v→(t,v)∈l∨T.get t=some v
 |[],T,h=> .inr h
 |p::l,T,h=>by
  rcases ME (l:=l) h with h|h
  ·exact .inl (wM _ h)
  ·rcases Tr.dm h with⟨h1,h2⟩|⟨_,h2⟩
   ·exact .inl (by rw[h1,h2];exact wW ..)
   ·exact .inr h2
def DH(E:Env)(run:Code→Fr→Heap→Option (Ex×Fr×Heap))(c:Code)(fr:Fr)(H:Heap)(r:Nat)(mm:Option Nat)(n i:Nat)(e:Value×Value)(ex:Ex)(bl:Fr):Prop:=
 ∃H',runHead E run (.tuple #[.bool true,e.1,e.2]) c fr {objs:=(H.setObj r (.iter mm n (.told i))).objs,grps:=H.grps,next:=H.next,lo:=H.next}=some (ex,bl,H')∧bl.marks=fr.marks∧bl.size=fr.size
theorem AR{run:Code→Fr→Heap→Option (Ex×Fr×Heap)}{c:Code}{fr:Fr}{r:Nat}{mm:Option Nat}{n:Nat}:∀ {es:List (Value×Value)} {i:Nat} {acc o:Option (List (Tmp×Value))},roundsV E run c fr H r mm n es i acc=some o→
  (∀l,acc=some l→∀ p∈l,plain1 p.2=true∧p.1∈writesOf c)→
  (∀l,acc=some l→∃ vs,o=some vs∧∀ p∈vs,p∈l)∧(∀vs,o=some vs→∀ p∈vs,plain1 p.2=true∧p.1∈writesOf c)∧
  (∀k e,es[k]? =some e→∃ ex bl,DH E run c fr H r mm n (i+k) e ex bl∧(ex= .normal∨ex= .ret∧∃ vs,o=some vs∧∀ p∈vs,bl.T.get p.1=some p.2))∧
  (acc=none→∀ vs,o=some vs→∃ k e bl,es[k]? =some e∧DH E run c fr H r mm n (i+k) e .ret bl)
 |[],i,acc,o,h,ha=>by
  simp only[roundsV,wi]at h
  subst h
  exact⟨fun l hl=>⟨l,hl,fun p hp=>hp⟩,ha,fun k e he=>by simp at he,fun h1 vs h2=>by rw[h1]at h2;cases h2⟩
 |x::es,i,acc,o,h,ha=>by
  simp only[roundsV]at h
  split at h
  ·rename_i ex bl H' bG
   obtain⟨k0,h⟩:=cn h
   simp only[wA]at k0
   have hx:DH E run c fr H r mm n i x ex bl:=⟨H',bG,MB k0.1,by simpa using k0.2⟩
   split at h
   ·obtain⟨h1,h2,h3,h4⟩:=AR h ha
    refine⟨h1,h2,fun k e he=>?_,fun hn vs hv=>?_⟩
    ·cases k with
     |zero=>simp only[wQ,wi]at he;subst he;exact⟨_,_,hx,.inl rfl⟩
     |succ k=>rw[show i+(k+1)=i+1+k by omega];exact h3 k e (by simpa using he)
    ·obtain⟨k,e,nR,h5,h6⟩:=h4 hn vs hv
     exact⟨k+1,e,nR,by simpa using h5,by rw[show i+(k+1)=i+1+k by omega];exact h6⟩
   ·have hT:∀ l:List (Tmp×Value),some (accRet bl.T (writesOf c) acc)=some l→∀ p∈l,bl.T.get p.1=some p.2∧plain1 p.2=true∧p.1∈writesOf c:=by
     intro l hl p hp
     simp only[wi]at hl
     subst hl
     cases acc with
     |none=>exact DG hp
     |some l=>obtain⟨h1,h2⟩:=AQ hp;exact⟨h1,ha l rfl p h2⟩
    obtain⟨h1,h2,h3,h4⟩:=AR h fun l hl p hp=>(hT l hl p hp).2
    obtain⟨vs,lP,lx⟩:=h1 _ rfl
    refine⟨fun l hl=>⟨vs,lP,fun p hp=>?_⟩,h2,fun k e he=>?_,fun hn vs hv=>⟨0,x,bl,rfl,hx⟩⟩
    ·have:=lx p hp
     rw[hl]at this
     exact(AQ this).2
    ·cases k with
     |zero=>
      simp only[wQ,wi]at he
      subst he
      exact⟨_,_,hx,.inr ⟨rfl,vs,lP,fun p hp=>(hT _ rfl p (lx p hp)).1⟩⟩
     |succ k=>rw[show i+(k+1)=i+1+k by omega];exact h3 k e (by simpa using he)
   ·simp at h
  ·simp at h
theorem gB.dropped{fr:Fr}{a a':Act}{ro:Option Nat}{c:Code}(hf:gB m fr a ro)(ht:∀ t,t∉writesOf c→a'.tmps[t]? =a.tmps[t]?)(hs:a'.tmps.size=fr.size)(hm:mT m fr.marks a'.defers):
  gB m {T:=dropAll (writesOf c) fr.T,size:=fr.size,marks:=fr.marks,round:=fr.round} a' ro:=by
 refine⟨fun t v hv=>?_,hs,hm,hf.round⟩
 obtain⟨h1,h2⟩:=G6 hv
 obtain⟨v',h3,h4⟩:=hf.tmps t v h2
 exact⟨v',(ht t h1).trans h3,h4⟩
theorem Vn(hE:EnvOk E)(hO:OrcOk E){run:Code→Fr→Heap→Option (Ex×Fr×Heap)}(bG:oD E run){c:Code}{it:Operand}{fr bl:Fr}{ex:Ex}{H':Heap}{a:Act}{ro:Option Nat}(hR:Rel B lo0 m H w)(hf:gB m fr a ro)
  (hi:headNext c=some it) (h:mapLoop E run c it fr H=some (ex,bl,H')):(Code.loop c).wpIn (fg ro) 0 E.P (fU B lo0 m H w (.loop c) a ro ex bl H') a w:=by
 unfold mapLoop at h
 simp only[Tr.force_eq,we]at h
 obtain⟨MF,h1,h⟩:=h
 split at h
 ·rename_i r
  split at h
  ·rename_i mm n dg
   simp only[we]at h
   obtain⟨es,h2,h⟩:=h
   obtain⟨k,h⟩:=cD h
   simp only[we]at h
   obtain⟨o,G9,h⟩:=h
   simp only[wbM,waM,wbi,wbp]at k
   obtain⟨bj,an⟩:=k
   obtain⟨_,MG,Hb,AS⟩:=AR G9 fun l hl=>by cases hl
   have Vo:ex≠ .normal:=by
    intro hx
    subst hx
    cases o with
    |some vs=>simp at h
    |none=>
     simp only[we]at h
     obtain⟨⟨cI,dV,H₁⟩,_,h3⟩:=h
     cases cI<;>simp at h3
   have yj:lo0≤r:=wK hR.lo an
   have mO:∀ a':Act,gB m {T:=dropAll (writesOf c) fr.T,size:=fr.size,marks:=fr.marks,round:=fr.round} a' ro→∃ p,m r=some p∧a'.eval it= .pointer (some ⟨p.ax,p.base+0,none⟩):=fun a' dQ=>by
    have:=cE dQ.tmps h1
    generalize a'.eval it=z at this
    cases this with
    |ptr hm=>exact⟨_,hm,rfl⟩
   have qH:=hf.dropped (a':=a) (c:=c) (fun _ _=>rfl) hf.size hf.marks
   obtain⟨p,hm,_⟩:=mO a qH
   have Vp:IterRel m p mm n .start w:=hR.obj r p _ hm dg
   obtain⟨Hc,iC,ziJ,DI,lf,rfl⟩:=Vp
   have ziK:=(hR.dom r p hm).2.1
   let I:Act→World→Prop:=fun a' w'=>(∃seen,w'.heap[p.ax]? =some (.mapIter iC n seen n))∧(∀b,b<w.heap.size→b≠p.ax→w'.heap[b]? =w.heap[b]?)∧w.heap.size≤w'.heap.size∧(w'.os=w.os∧w'.output=w.output)∧
    gB m {T:=dropAll (writesOf c) fr.T,size:=fr.size,marks:=fr.marks,round:=fr.round} a' ro∧(∀t,t∉writesOf c→a'.tmps[t]? =a.tmps[t]?)∧
    ∀seen He,w'.heap[p.ax]? =some (.mapIter iC n seen He)→∀ i∈seen.toList,∀e,es[i]? =some e→∃ nR,DH E run c {T:=dropAll (writesOf c) fr.T,size:=fr.size,marks:=fr.marks,round:=fr.round} H r mm n i e .normal nR
   have MI:∀ w',(∀b,b<w.heap.size→b≠p.ax→w'.heap[b]? =w.heap[b]?)→w.heap.size≤w'.heap.size→Rel B lo0 m {objs:=H.objs.del r,grps:=H.grps,next:=H.next,lo:=H.lo} w':=fun w' hb hs=>by
    refine hR.hold hs (fun b hlt=>hb b (wq hlt hR.base) fun e=>by have:=(hR.dom r p hm).2.2.1 yj;omega) (fun j q x hj hx=>hb _ (hR.dom j q hj).2.1 fun gT=>?_) (fun j x hx=>(Tr.jf hx).2) rfl rfl hR.lo hR.ag
    have cu:=Tr.jf hx
    have:=hR.sep r j p q _ x (wbl cu.1) yj hm hj dg cu.2 gT.symm
    exact this
   have vy:o=none→∀ a' w',I a' w'→(∀ty,(Instr.next (a'.eval it) false ty).run E.P w'= .ok (.tuple #[.bool false]) w')→c.wpIn (fg ro) 0 E.P (Exit.then (fun _ _=>False) (fU B lo0 m H w (.loop c) a ro ex bl H')) a' w':=by
    rintro rfl a' w' ⟨_,hb,hs,fj,dQ,ht,_⟩ hn
    simp only[we]at h
    obtain⟨⟨cI,dV,H₁⟩,jy,h3⟩:=h
    have hex:cI=ex∧dV=bl∧H₁=H':=by cases cI<;>simp_all
    obtain⟨rfl,rfl,rfl⟩:=hex
    have MJ:=MI w' hb hs
    have g0:Good B lo0 m H w m {objs:=H.objs.del r,grps:=H.grps,next:=H.next,lo:=H.lo} w':=⟨m.le_refl,MJ,fun _ _ h=> .inl h,fun r p h h'=>(by rw[h]at h';cases h'),wy _,rfl,
     fun b sd aX=>hb b sd fun gT=>aX r p hm an gT.symm,hs,fun j x _ hx=>(Tr.jf hx).2,fj⟩
    refine waJ (MC hE hO bG c hi _ _ _ _ _ m a' w' ro jy hn MJ (.tuple rfl (fun i v v' h h'=>?_)) dQ) fun e a₁ w₁ ⟨he,m₁,hg,fE,ud⟩=>?_
    ·have h':(#[Value.bool false]:Array Value).toList[i]? =some v':=h'
     rw[h]at h';cases h'
     cases i with
     |zero=>simp at h;subst h;exact .bool false
     |succ i=>simp at h
    ·have GF:fU B lo0 m H w (.loop c) a ro cI dV H₁ e a₁ w₁:=⟨he,m₁,g0.trans hg,fE,fun t h'=>(ud t h').trans (ht t h')⟩
     subst he
     cases cI with
     |normal=>exact absurd rfl Vo
     |_=>exact GF
   cases DJ:mm with
   |none=>
    rw[DJ]at lf
    simp only at lf
    subst lf
    have MK:es=[]:=by rw[DJ]at h2;simpa[entriesOf]using h2.symm
    have se:o=none:=by rw[MK]at G9;simpa[roundsV]using G9.symm
    refine wpIn_loop_once (vy se a w ⟨⟨#[],DI⟩,fun _ _ _=>rfl,wy _,⟨rfl,rfl⟩,qH,fun _ _=>rfl,fun _ _ _ i _ e he=>by rw[MK]at he;simp at he⟩ fun ty=>?_)
    obtain⟨p',eC,he⟩:=mO a qH
    rw[hm]at eC;cases eC
    rw[he,Hc]
    simp only[Instr.next,wB,ib DI (fun c e f h=>by cases h),wu,wC]
   |some rm=>
    rw[DJ]at lf h2
    obtain⟨q,hq,rfl⟩:=lf
    have pq:H.objs.get rm=some (.map es):=by
     simp only[entriesOf]at h2
     split at h2
     ·rename_i bb sf;simp only[wi]at h2;subst h2;exact sf
     ·simp at h2
    obtain⟨bb,m1,m2,m3⟩:=hR.obj rm q _ hq pq
    have Vq:=(hR.dom rm q hq).2.1
    have Vr:q.ax≠p.ax:=fun gT=>by
     have aX:r≠rm:=fun h=>by subst h;rw[dg]at pq;cases pq
     exact hR.sep r rm p q _ _ aX yj hm hq dg pq gT.symm
    have ML:∀ (i:Nat) (e:MapEntry),bb[i]? =some e→e.born=i∧i<n:=fun i e he=>by
     have hlt:i<bb.size:=(w0.1 he).1
     have lN:i<es.length:=by omega
     obtain⟨e',h4,_,_,h5⟩:=m3 i es[i].1 es[i].2 (wj lN)
     rw[he]at h4;cases h4
     exact⟨h5,by omega⟩
    have hold:∀ x∈bb.toList,x.born<n:=fun x hx=>by
     obtain⟨i,hi⟩:=wbx.1 hx
     obtain⟨h4,h5⟩:=ML i x (by rw[←wao];exact hi)
     omega
    have Vs:bb.size=n:=by omega
    let μ:Act→World→Nat:=fun _ w'=>match w'.heap[p.ax]? with
     |some (.mapIter _ _ seen _)=>(leftOf bb seen).size
     |_=>0
    refine wpIn_loop I μ ⟨⟨#[],DI⟩,fun _ _ _=>rfl,wy _,⟨rfl,rfl⟩,qH,fun _ _=>rfl,fun seen He hs i hi=>by rw[DI]at hs;cases hs;simp at hi⟩ fun a' w' hI=>?_
    obtain⟨⟨seen,pB⟩,hb,bf,fj,dQ,ht,Hg⟩:=hI
    obtain⟨p',eC,mF⟩:=mO a' dQ
    rw[hm]at eC;cases eC
    rw[Hc]at mF
    have GH:w'.heap[q.ax]? =some (.map bb n):=by rw[hb _ Vq Vr,m1,Vs]
    rcases run_next_at (P:=E.P) w' 0 p.ax q.ax n n seen bb n pB GH hold (wy _)with⟨h4,h5⟩|⟨e,h4,w1,h5,h6⟩
    ·have se:o=none:=by
      cases ho:o with
      |none=>rfl
      |some vs=>
       obtain⟨k,e,nR,h6,H6,h7,_⟩:=AS rfl vs ho
       rw[wau]at h7
       obtain⟨e',h8,_,_,h9⟩:=m3 k e.1 e.2 h6
       have cf:k∈seen.toList:=by
        have lL:e'∈bb.toList:=wbx.2 ⟨k,by rw[wao];exact h8⟩
        have:=Vk h4 lL
        rwa [h9]at this
       obtain⟨fr3,H3,aZ,_⟩:=Hg seen n pB k cf e h6
       rw[h7]at aZ
       cases aZ
     refine waJ (vy se a' w' ⟨⟨seen,pB⟩,hb,bf,fj,dQ,ht,Hg⟩ fun ty=>by rw[mF];exact h5) fun e a₁ w₁ hp=>?_
     cases e<;>first|exact hp|exact hp.elim
    ·obtain⟨lL,ziL⟩:=mem_left h4
     obtain⟨i,dU⟩:=wbx.1 lL
     have dU:bb[i]? =some e:=by rw[←wao];exact dU
     obtain⟨fC,gG⟩:=ML i e dU
     have sf:es[i]? =some es[i]:=wj (by omega)
     obtain⟨exr,tC,Hh,pw⟩:=Hb i _ sf
     rw[wau]at Hh
     have Vt:=Hh
     obtain⟨H₂,gS,cq,AT⟩:=Hh
     obtain⟨oE,h7,Vu,ly,_⟩:=m3 i es[i].1 es[i].2 sf
     rw[dU]at h7;cases h7
     have vz:w1.heap=w'.heap∧w1.os=w'.os∧w1.output=w'.output:=by rcases h5 with rfl|rfl<;>exact⟨rfl,rfl,rfl⟩
     have pC:∀ b,b≠p.ax→(ChangeMaps.setBlock w1 p.ax (.mapIter (some q.ax) n (seen.push e.born) n)).heap[b]? =w'.heap[b]? :=fun b gT=>by
      show(w1.heap.setIfInBounds p.ax _)[b]? =_
      rw[wa8 (wbl gT),vz.1]
     have MM:(ChangeMaps.setBlock w1 p.ax (.mapIter (some q.ax) n (seen.push e.born) n)).heap[p.ax]? =some (.mapIter (some q.ax) n (seen.push e.born) n):=by
      show(w1.heap.setIfInBounds p.ax _)[p.ax]? =_
      rw[wb7 (by rw[vz.1];omega)]
     have DK:(ChangeMaps.setBlock w1 p.ax (.mapIter (some q.ax) n (seen.push e.born) n)).heap.size=w'.heap.size:=by
      show(w1.heap.setIfInBounds p.ax _).size=_
      rw[Array.size_setIfInBounds,vz.1]
     have Vv:Rel B lo0 m {objs:=(H.setObj r (.iter mm n (.told i))).objs,grps:=H.grps,next:=H.next,lo:=H.next} (ChangeMaps.setBlock w1 p.ax (.mapIter (some q.ax) n (seen.push e.born) n)):=by
      refine hR.other hm yj dg (fun c g t h=>by cases h) (o':= .iter mm n (.told i)) (fun c g t h=>by cases h) (by rw[DK];exact bf) (fun b fC gG=>(pC b gG).trans (hb b fC gG)) ?_ (fun j x hx=>?_) rfl rfl (wK hR.lo hR.ag) (wy _)
      ·refine⟨Hc,some q.ax,seen.push e.born,MM,?_,?_⟩
       ·rw[DJ];exact⟨q,hq,rfl⟩
       ·rw[Array.back?_push,fC]
      ·simp only[Heap.setObj,Tr.force_eq]at hx
       exact Tr.dm hx
     have Vw:VRel m (.tuple #[.bool true,es[i].1,es[i].2]) (.tuple #[.bool true,e.key,e.val]):=
      .uP (l:=[.bool true,es[i].1,es[i].2]) (l':=[.bool true,e.key,e.val]) (.cons (.bool true) (.cons Vu (.one ly)))
     refine waJ (MC hE hO bG c hi _ _ _ _ _ m a' w' ro gS (fun ty=>by rw[mF];exact h6) Vv Vw dQ) fun ua a₁ w₁ ⟨ue,m₁,hg,fE,ud⟩=>?_
     subst ue
     have cG:∀ b,b<w'.heap.size→w₁.heap[b]? =(ChangeMaps.setBlock w1 p.ax (.mapIter (some q.ax) n (seen.push e.born) n)).heap[b]? :=fun b yy=>hg.frame b (by rw[DK];exact yy) fun j qq hj jB=>by
      have:=(hR.dom j qq hj).1
      have jB:H.next≤j:=jB
      omega
     have AU:w₁.heap[p.ax]? =some (.mapIter (some q.ax) n (seen.push e.born) n):=(cG _ (by omega)).trans MM
     rcases pw with rfl|⟨rfl,vs,rfl,lP⟩
     case inr=>
      simp only[wi,wk]at h
      obtain⟨rfl,rfl,rfl⟩:=h
      have sd:∀ b,b<w.heap.size→b≠p.ax→w₁.heap[b]? =w.heap[b]? :=fun b fC gG=>(cG b (by omega)).trans ((pC b gG).trans (hb b fC gG))
      have mR:w.heap.size≤w₁.heap.size:=by
       have:=hg.size
       rw[DK]at this
       omega
      have g0:Good B lo0 m H w m {objs:=H.objs.del r,grps:=H.grps,next:=H.next,lo:=H.lo} w₁:=⟨m.le_refl,MI w₁ sd mR,fun _ _ h=> .inl h,fun r p h h'=>(by rw[h]at h';cases h'),wy _,rfl,
       fun b fC aX=>sd b fC fun gT=>aX r p hm an gT.symm,mR,fun j x _ hx=>(Tr.jf hx).2,⟨hg.os.1.trans (vz.2.1.trans fj.1),hg.os.2.trans (vz.2.2.trans fj.2)⟩⟩
      refine⟨rfl,m,g0,⟨fun t v hv=>?_,?_,mT.back hg.le dQ.marks ?_,hf.round⟩,fun t h'=>(ud t h').trans (ht t h')⟩
      ·rcases ME hv with hv|hv
       ·obtain⟨v',h8,h9⟩:=fE.tmps t v (lP _ hv)
        exact⟨v',h8,h9.Vl (MG vs rfl _ hv).1⟩
       ·obtain⟨h8,h9⟩:=G6 hv
        obtain⟨v',aZ,aY⟩:=hf.tmps t v h9
        exact⟨v',(ud t h8).trans ((ht t h8).trans aZ),aY⟩
      ·have:=fE.size
       rw[this,AT]
      ·have:=fE.marks
       rwa [cq]at this
     refine⟨⟨⟨seen.push e.born,AU⟩,fun b fC gG=>(cG b (by omega)).trans ((pC b gG).trans (hb b fC gG)),?_,?_,?_,fun t h'=>(ud t h').trans (ht t h'),fun ziM He hs2 j hj e2 ue=>?_⟩,?_⟩
     ·have:=hg.size
      rw[DK]at this
      omega
     ·exact⟨hg.os.1.trans (vz.2.1.trans fj.1),hg.os.2.trans (vz.2.2.trans fj.2)⟩
     ·refine hf.dropped (fun t h'=>(ud t h').trans (ht t h')) ?_ (mT.back hg.le dQ.marks ?_)
      ·have:=fE.size
       rw[this,AT]
      ·have:=fE.marks
       rwa [cq]at this
     ·rw[AU]at hs2
      cases hs2
      rw[Array.toList_push,waI,waG]at hj
      rcases hj with hj|rfl
      ·exact Hg seen n pB j hj e2 ue
      ·rw[fC]at ue
       rw[sf]at ue
       cases ue
       rw[fC]
       exact⟨tC,Vt⟩
     ·show(match w₁.heap[p.ax]? with|some (.mapIter _ _ seen _)=>(leftOf bb seen).size|_=>0)<(match w'.heap[p.ax]? with|some (.mapIter _ _ seen _)=>(leftOf bb seen).size|_=>0)
      rw[AU,pB]
      exact left_shrinks bb seen e h4
  ·simp at h
 ·simp at h
end
section
variable[Maps]{B lo0:Nat}{m:Match}{H:Heap}{w:World}{E:Env}
def D9(E:Env)(run:Code→Fr→Heap→Option (Ex×Fr×Heap)):Prop:=∀ c fr H ex bl H',headNext c=none→run (.loop c) fr H=some (ex,bl,H')→∃ N,∀B lo0 m a w ro,Rel B lo0 m H w→gB m fr a ro→
 Code.roundsIn (fg ro) 0 E.P c (fU B lo0 m H w (.loop c) a ro ex bl H') N a w
end
section
variable{B lo0:Nat}{m:Match}{w:World}{P:Program}
theorem NF{F:Fence}{n:Nat}{P:Program}{c:Code}{Q Q':Exit→Act→World→Prop}(hq:∀ e a w,Q e a w→Q' e a w):∀ {N:Nat} {a:Act} {w:World},Code.roundsIn F n P c Q N a w→Code.roundsIn F n P c Q' N a w
 |0,_,_,h=>h.elim
 |N+1,a,w,h=>by
  rw[wcs]at h⊢
  refine waJ h fun e a' w' hp=>?_
  cases e with
  |normal=>exact NF hq hp
  |_=>exact hq _ _ _ hp
end
section
variable[Maps]{B lo0:Nat}{m:Match}{H:Heap}{w:World}{E:Env}
theorem fU.after{c c':Code}{a a₁:Act}{ro:Option Nat}{ex:Ex}{bl:Fr}{H' H₁:Heap}{m₁:Match}{w₁:World}(hg:Good B lo0 m H w m₁ H₁ w₁)(ha:∀ t,t∉writesOf c'→a₁.tmps[t]? =a.tmps[t]?)(hw:∀ t,t∉writesOf c'→t∉writesOf c)
  {e:Exit} {a':Act} {w':World} (h:fU B lo0 m₁ H₁ w₁ c a₁ ro ex bl H' e a' w'):fU B lo0 m H w c' a ro ex bl H' e a' w':=
 let⟨h1,m',h2,h3,h4⟩:=h
 ⟨h1,m',hg.trans h2,h3,fun t ht=>(h4 t (hw t ht)).trans (ha t ht)⟩
end
section
variable{B lo0:Nat}{m:Match}{w:World}{P:Program}
theorem HG{ex:Ex}{e:Exit}{next:Act→World→Prop}{Q:Exit→Act→World→Prop}{a:Act}{w:World}(he:e=ex.to)(hn:ex= .normal→next a w)(hq:ex≠ .normal→Q ex.to a w):Exit.then next Q e a w:=by
 subst he
 cases ex with
 |normal=>exact hn rfl
 |ret=>exact hq (by simp)
 |exit id=>exact hq (by simp)
theorem We{F:Fence}{n:Nat}{P:Program}{Q:Exit→Act→World→Prop}{a:Act}{w:World}{c:Code}(h:c.wpIn F n P Q a w)(hq:∀ l a w,¬Q (.goto l) a w):(Code.scope c).wpIn F n P Q a w:=by
 intro b k cs A9 hb hr
 have h0:(lone (b.atR a (.code (.scope c)::k)) cs w).fenced P F:=fenced_calm hb hr rfl
 have hs:step P (lone (b.atR a (.code (.scope c)::k)) cs w)= .next (lone (b.atR a (.code c:: .inScope c::k)) cs w):=step_lone_go (by simp[stepG,stepG.exec,Frame.atR])
 obtain⟨e,a₁,w₁,yI,tq⟩:=h b (.inScope c::k) cs A9 hb hr
 cases e with
 |normal=>exact⟨.normal,a₁,w₁,yI,.head h0 hs (StepsIn.trans tq (.one (fenced_calm hb hr rfl) (step_lone_go (by simp[stepG,stepG.exec,Frame.atR]))))⟩
 |exit HH=>
  have hx:exitTo HH (.inScope c::k)=exitTo HH k:=by simp[exitTo]
  exact⟨.exit HH,a₁,w₁,yI,fun k' hk=> .head h0 hs (tq.1 k' (by rw[hx];exact hk)),
    fun cp hk=>let⟨k₁,h1,h2⟩:=tq.2 cp (by rw[hx];exact hk);⟨k₁,h1,.head h0 hs h2⟩⟩
 |goto l=>exact absurd yI (hq l a₁ w₁)
 |ret=>exact⟨_,a₁,w₁,yI,.of_steps (.one h0 hs) tq⟩
 |panic ch=>exact⟨_,a₁,w₁,yI,.of_steps (.one h0 hs) tq⟩
 |outgrown=>exact⟨_,a₁,w₁,yI,.of_steps (.one h0 hs) tq⟩
end
section
variable[Maps]{B lo0:Nat}{m:Match}{H:Heap}{w:World}{E:Env}
theorem Wf(hE:EnvOk E){run:Code→Fr→Heap→Option (Ex×Fr×Heap)}(bG:oD E run){g:Operand}{gv:Value}{ps:Array Tmp}{assign body:Code}{fr bl:Fr}{ex:Ex}{H':Heap}{a:Act}{ro:Option Nat}(hR:Rel B lo0 m H w)(hf:gB m fr a ro)
  (h0:fr.round=none) (h1:ev fr.T g=some gv) (h:rangeV E run gv ps.toList assign body fr H=some (ex,bl,H')):
  (Code.rangeFunc g ps assign body).wpIn (fg ro) 0 E.P (fU B lo0 m H w (.rangeFunc g ps assign body) a ro ex bl H') a w:=by
 obtain rfl:=hf.round h0
 have hg:=cE hf.tmps h1
 unfold rangeV at h
 split at h
 ·rename_i gf first captured
  simp only[we]at h
  obtain⟨⟨rv,H₃⟩,h2,h3⟩:=h
  have g1:Good B lo0 m H w (ez m H.next ⟨w.heap.size,0,0,true,0⟩) (H.add .defers) (w.alloc (.deferred (some []))):=
   Good.added hR (.deferred (some [])) .defers ⟨w.heap.size,0,0,true,0⟩ rfl rfl ⟨rfl,rfl⟩ (by show(w.heap.push _)[w.heap.size]? =_;simp) (fun c g t h=>by cases h)
  have bf:(w.alloc (.deferred (some []))).heap.size=w.heap.size+1:=by show(w.heap.push _).size=_;simp
  have jJ:(H.add .defers).next=H.next+1:=iR H _
  have F7:∀ O,((w.alloc (.deferred (some []))).alloc O).heap[w.heap.size+1]? =some O:=fun O=>by
   show((w.alloc (.deferred (some []))).heap.push O)[w.heap.size+1]? =_
   rw[←bf]
   exact Array.getElem?_push_size ..
  let L:FuncId→Loop:=fun fn=>{state:= .ready,pending:=none,fn,tmps:=a.tmps,params:=ps,assign,body,defers:=w.heap.size}
  have g2:∀ fn,Good B lo0 (ez m H.next ⟨w.heap.size,0,0,true,0⟩) (H.add .defers) (w.alloc (.deferred (some []))) (ez (ez m H.next ⟨w.heap.size,0,0,true,0⟩) (H.add .defers).next ⟨w.heap.size+1,0,0,true,0⟩)
    ((H.add .defers).add (.loop .ready none fr.size fr.T ps.toList assign body H.next)) ((w.alloc (.deferred (some []))).alloc (.loop (L fn))):=fun fn=>
   Good.added g1.rel (.loop (L fn)) _ ⟨w.heap.size+1,0,0,true,0⟩ bf.symm rfl ⟨rfl,rfl⟩
    ⟨L fn,F7 _,rfl,rfl,hf.size,hf.tmps.mono (Match.le_trans g1.le (pe _ g1.rel.pg)),rfl,rfl,rfl⟩ (fun c g t h=>by cases h)
  have qL:(ez (ez m H.next ⟨w.heap.size,0,0,true,0⟩) (H.add .defers).next ⟨w.heap.size+1,0,0,true,0⟩) (H.add .defers).next=some ⟨w.heap.size+1,0,0,true,0⟩:=jx _ _ _
  refine wpIn_rangeFunc fun fn _=>?_
  have tE:=g1.trans (g2 fn)
  have HI:=FZ hE bG (B:=B) (lo0:=lo0) _ _ _ _ _ h2 _ _ _ #[.func (.yield (w.heap.size+1)) #[] #[]] (hg.mono tE.le)
   (.one (.func ⟨_,qL,rfl⟩ rfl rfl (fun i v v' h=>by simp at h) (fun i v v' h=>by simp at h))) (g2 fn).rel
  cases ic:a.eval g with
  |func f' gj qs=>
   rw[ic]at hg HI
   cases hg with
   |func cG _ _ _ _=>
    simp only[FnRel]at cG
    subst cG
    have hbody:∃ fd c,E.fn.get gf=some fd∧fd.body=some c:=by
     simp only[callBody,target,wo,we]at h2
     obtain⟨fd,k1,h2⟩:=h2
     split at h2
     ·rw[KZ]at h2
      simp at h2
     ·rename_i c k2
      exact⟨fd,c,k1,k2⟩
    obtain⟨fd,c,k1,k2⟩:=hbody
    have iQ:∀ bI w',(callFunc gf bI).run E.P w'= .ok (.enter gf bI) w':=fun bI w'=>by
     simp only[callFunc,wB,run_program,wu,hE.fn gf fd k1,hE.num gf fd k1,k2,wG,waa,Option.isNone_some,wC]
    simp only[Deferred.ofValue,wB,wC,wu,invoke,iQ]at HI
    have Wg:(fg none).depth.isSome=true→1≤0:=fun h=>by simp[fg,Fence.wide]at h
    refine⟨w.heap.size+1,([{target:= .collected w.heap.size,args:= #[]}]:List Deferred),(w.alloc (.deferred (some []))).alloc (.loop (L fn)),
     ({target:= .fn (.func gf) qs,args:=gj++ #[Value.func (Fn.yield (w.heap.size+1)) #[] #[]]}:Deferred),(w.alloc (.deferred (some []))).alloc (.loop (L fn)),gf,
     gj++ #[Value.func (Fn.yield (w.heap.size+1)) #[] #[]]++qs,(w.alloc (.deferred (some []))).alloc (.loop (L fn)),?_,?_,fun _ _=>trivial,(by simp only[invoke];exact iQ _ _),Wg,?_⟩
    ·show(Instr.enterLoop fn a.tmps ps assign body none).run E.P w=_
     simp only[Instr.enterLoop,wB,wC,wbN,wu]
     rw[←bf]
     rfl
    ·have pq:(#[Operand.const (.func (.yield (w.heap.size+1)) #[] #[])]).map a.eval= #[Value.func (Fn.yield (w.heap.size+1)) #[] #[]]:=by simp[Act.eval]
     simp only[resolve,ic,Deferred.ofValue,wC,pq]
    ·have h5:CallsIn (fg none) 0 E.P _ _ _ _:=HI
     refine h5.mono fun e w₃ ⟨v,he,m₃,mH,_⟩=>?_
     subst he
     have HJ:=mH.le _ _ qL
     simp only at h3
     split at h3
     ·rename_i st fK size T Ea as bo de dg
      obtain⟨L₃,e1,e2,e3,e4,e5,e6,e7,e8⟩:=FT (mH.rel.obj _ _ _ HJ dg)
      have an:H₃.lo≤(H.add .defers).next:=by
       have:=hR.ag
       rw[mH.lo,(g2 fn).lo,g1.lo,jJ];omega
      have hb:=(mH.rel.dom _ _ HJ).2.1
      have Dd:Good B lo0 m₃ H₃ w₃ m₃ (H₃.setObj (H.add .defers).next (.loop .exhausted fK size T Ea as bo de)) (dI w₃ (w.heap.size+1) (.loop {L₃ with state:= .exhausted})):=by
       refine Good.exchange mH.rel HJ an dg (fun c g t h=>by cases h) (fun c g t h=>by cases h) (o':= .loop .exhausted fK size T Ea as bo de) ?_ ?_ ?_ (fun j x hx=>?_) ⟨_,nG _ hb,rfl,e3,e4,e5,e6,e7,e8⟩
       ·simp[Heap.setObj,Tr.force_eq]
       ·simp[Heap.setObj,Tr.force_eq]
       ·simp[Heap.setObj,Tr.force_eq]
       ·simp only[Heap.setObj,Tr.force_eq]at hx
        exact Tr.dm hx
      have cF:=(tE.trans mH).trans Dd
      have jy:st≠ .busy→(Instr.endLoop (w.heap.size+1)).run E.P w₃= .ok fK (dI w₃ (w.heap.size+1) (.loop {L₃ with state:= .exhausted})):=fun dt=>by
       have gG:(L₃.state==LoopState.busy)=false:=by rw[e2];cases st<;>first|rfl|exact absurd rfl dt
       simp only[Instr.endLoop,wB,C0 e1,wu,gG,wG,waa,wC,qo e1 (fun c e f h=>by cases h),e3]
      have HK:mT m₃ (H.next::fr.marks) ([{target:= .collected w.heap.size,args:= #[]}]++a.defers):=by
       refine⟨⟨⟨w.heap.size,0,0,true,0⟩,mH.le _ _ ((g2 fn).le _ _ (jx _ _ _)),rfl⟩,hf.marks.mono (Match.le_trans tE.le mH.le)⟩
      have cG:gB m₃ {T:=fr.T,size:=fr.size,marks:=H.next::fr.marks,round:=fr.round} {a with defers:=[{target:= .collected w.heap.size,args:= #[]}]++a.defers} none:=
       ⟨hf.tmps.mono (Match.le_trans tE.le mH.le),hf.size,HK,hf.round⟩
      have dt:st≠ .busy:=fun dt=>by subst dt;simp at h3
      refine⟨fK,_,jy dt,?_⟩
      cases fK with
      |none=>
       have h6:ex= .normal∧bl={T:=fr.T,size:=fr.size,marks:=H.next::fr.marks,round:=fr.round}∧H'=H₃.setObj (H.add .defers).next (.loop .exhausted none size T Ea as bo de):=by
        cases st<;>simp only[wi,wk,reduceCtorEq]at h3<;>exact⟨h3.1.symm,h3.2.1.symm,h3.2.2.symm⟩
       obtain⟨rfl,rfl,rfl⟩:=h6
       exact⟨rfl,m₃,cF,cG,fun _ _=>rfl⟩
      |some cc=>
       have h6:(cc= .ret∨∃ id,cc= .exit id)∧run cc {T:=fr.T,size:=fr.size,marks:=H.next::fr.marks,round:=fr.round} (H₃.setObj (H.add .defers).next (.loop .exhausted (some cc) size T Ea as bo de))=some (ex,bl,H'):=by
        cases cc<;>cases st<;>simp only[reduceCtorEq]at h3<;>first
         |exact⟨.inl rfl,h3⟩
         |exact⟨.inr ⟨_,rfl⟩,h3⟩
       obtain⟨h7,h8⟩:=h6
       refine waJ (bG cc _ _ ex bl H' h8 B lo0 m₃ _ _ none Dd.rel cG) fun e a' w' hp=>fU.after cF (fun _ _=>rfl) (fun t _=>?_) hp
       rcases h7 with rfl|⟨id,rfl⟩<;>simp[writesOf]
     ·simp at h3
  |_=>rw[ic]at hg;cases hg
 ·simp at h
theorem Wh{run:Code→Fr→Heap→Option (Ex×Fr×Heap)}(bG:oD E run){c:Code}{fr bl:Fr}{ex:Ex}{H':Heap}{a:Act}{ro:Option Nat}(hR:Rel B lo0 m H w)(hf:gB m fr a ro)(h:Aq run c fr H=some (ex,bl,H')):
  (Code.loop c).wpIn (fg ro) 0 E.P (fU B lo0 m H w (.loop c) a ro ex bl H') a w:=by
 unfold Aq at h
 simp only[we]at h
 obtain⟨⟨cI,dV,H₁⟩,h1,h2⟩:=h
 have one:∀ cI dV H₁,run c fr H=some (cI,dV,H₁)→cI≠ .normal→(Code.loop c).wpIn (fg ro) 0 E.P (fU B lo0 m H w (.loop c) a ro cI dV H₁) a w:=fun cI dV H₁ h1 aX=>by
  refine wpIn_loop_rounds 1 ?_
  rw[wcs]
  refine waJ (bG c fr H _ _ _ h1 B lo0 m a w ro hR hf) fun e a' w' hp=>?_
  have he:=hp.1
  have iS:=fU.after (c':= .loop c) (.refl hR) (fun _ _=>rfl) (fun t h' h=>h' h) hp
  cases cI with
  |normal=>exact absurd rfl aX
  |ret=>subst he;exact iS
  |exit id=>subst he;exact iS
 cases cI with
 |ret=>
  simp only[wi,wk]at h2
  obtain⟨rfl,rfl,rfl⟩:=h2
  exact one _ _ _ h1 (by simp)
 |exit id=>
  simp only[wi,wk]at h2
  obtain⟨rfl,rfl,rfl⟩:=h2
  exact one _ _ _ h1 (by simp)
 |normal=>
  simp only[we]at h2
  obtain⟨⟨G5,tC,H₂⟩,h3,h4⟩:=h2
  refine wpIn_loop_rounds 2 ?_
  rw[wcs]
  refine waJ (bG c fr H _ _ _ h1 B lo0 m a w ro hR hf) fun e a' w' hp=>?_
  obtain⟨rfl,m₁,tD,fE,ud⟩:=hp
  show Code.roundsIn (fg ro) 0 E.P c _ 1 a' w'
  rw[wcs]
  refine waJ (bG c dV H₁ _ _ _ h3 B lo0 m₁ a' w' ro tD.rel fE) fun e a₂ w₂ hp=>?_
  have he:=hp.1
  have iS:=fU.after (c':= .loop c) tD (fun t ht=>ud t ht) (fun t h' h=>h' h) hp
  cases G5 with
  |normal=>simp at h4
  |ret=>
   simp only[wi,wk]at h4
   obtain⟨rfl,rfl,rfl⟩:=h4
   subst he;exact iS
  |exit id=>
   simp only[wi,wk]at h4
   obtain⟨rfl,rfl,rfl⟩:=h4
   subst he;exact iS
theorem Wi(hE:EnvOk E)(hO:OrcOk E){run:Code→Fr→Heap→Option (Ex×Fr×Heap)}(tZ:vw run)(bG:oD E run)(Wj:D9 E run):oD E (runWith E run)∧D9 E (runWith E run):=by
 have hL:D9 E (runWith E run):=by
  intro c fr H ex bl H' hh h
  simp only[runWith,hh,we]at h
  obtain⟨⟨cI,dV,H₁⟩,h1,h2⟩:=h
  by_cases hex:cI= .normal
  ·subst hex
   simp only at h2
   obtain⟨N,hN⟩:=Wj c dV H₁ ex bl H' hh h2
   refine⟨N+1,fun B lo0 m a w ro hR hf=>?_⟩
   rw[wcs]
   refine waJ (bG c fr H _ _ _ h1 B lo0 m a w ro hR hf) fun e a₁ w₁ ⟨he,m₁,hg,fE,ht⟩=>?_
   refine HG he (fun _=>?_) (fun h=>absurd rfl h)
   exact NF (fun e a' w' hp=>fU.after hg ht (fun t ht=>ht) hp) (hN B lo0 m₁ a₁ w₁ ro hg.rel fE)
  ·refine⟨1,fun B lo0 m a w ro hR hf=>?_⟩
   rw[wcs]
   have h3:cI=ex∧dV=bl∧H₁=H':=by cases cI<;>simp_all
   obtain⟨rfl,rfl,rfl⟩:=h3
   refine waJ (bG c fr H _ _ _ h1 B lo0 m a w ro hR hf) fun e a₁ w₁ ⟨he,m₁,hg,fE,ht⟩=>?_
   exact HG he (fun h=>absurd h hex) (fun _=>⟨rfl,m₁,hg,fE,ht⟩)
 refine⟨?_,hL⟩
 intro c fr H ex bl H' h B lo0 m a w ro hR hf
 have still:∀ {c:Code},fU B lo0 m H w c a ro .normal fr H .normal a w:=⟨rfl,m,.refl hR,hf,fun _ _=>rfl⟩
 cases c with
 |skip=>
  simp only[runWith,wi,wk]at h
  obtain⟨rfl,rfl,rfl⟩:=h
  exact wpIn_skip still
 |label l=>
  simp only[runWith,wi,wk]at h
  obtain⟨rfl,rfl,rfl⟩:=h
  exact wpIn_label still
 |exit id=>
  simp only[runWith,wi,wk]at h
  obtain⟨rfl,rfl,rfl⟩:=h
  exact wpIn_exit ⟨rfl,m,.refl hR,hf,fun _ _=>rfl⟩
 |ret=>
  simp only[runWith,wi,wk]at h
  obtain⟨rfl,rfl,rfl⟩:=h
  exact wpIn_ret ⟨rfl,m,.refl hR,hf,fun _ _=>rfl⟩
 |region id ops rQ=>
  cases rQ with
  |false=>
   simp only[runWith,we,wi,wk]at h
   obtain⟨⟨T',H₁⟩,h1,rfl,rfl,rfl⟩:=h
   exact Wl hE (F1 hE hO bG) hR hf h1
  |true=>
   simp only[runWith,we,wi,wk]at h
   obtain⟨⟨T',H₁⟩,h1,rfl,rfl,rfl⟩:=h
   exact Up hE (fun B lo0=>F1 hE hO bG) (DE hO.low tZ) hR hf h1
 |seq x y=>
  simp only[runWith,we]at h
  obtain⟨⟨cI,dV,H₁⟩,h1,h2⟩:=h
  refine wpIn_seq (waJ (bG x fr H _ _ _ h1 B lo0 m a w ro hR hf) fun e a₁ w₁ ⟨he,m₁,hg,fE,ht⟩=>HG he (fun hn=>?_) (fun hn=>?_))
  ·subst hn
   refine waJ (bG y dV H₁ _ _ _ h2 B lo0 m₁ a₁ w₁ ro hg.rel fE) fun e a' w' hp=>fU.after hg (fun t h'=>ht t fun h=>h' ?_) (fun t h' h=>h' ?_) hp
   ·simp[writesOf,h]
   ·simp[writesOf,h]
  ·have h3:cI=ex∧dV=bl∧H₁=H':=by cases cI<;>simp_all
   obtain⟨rfl,rfl,rfl⟩:=h3
   exact⟨rfl,m₁,hg,fE,fun t h'=>ht t fun h=>h' (by simp[writesOf,h])⟩
 |cond x p q=>
  simp only[runWith,we]at h
  obtain⟨v,h1,h2⟩:=h
  have hv:=cE hf.tmps h1
  split at h2
  ·have he:a.eval x= .bool true:=by generalize a.eval x=z at hv;cases hv;rfl
   refine wpIn_cond_true he (waJ (bG p fr H _ _ _ h2 B lo0 m a w ro hR hf) fun e a' w' hp=>fU.after (.refl hR) (fun _ _=>rfl) (fun t h' h=>h' (by simp[writesOf,h])) hp)
  ·have he:a.eval x= .bool false:=by generalize a.eval x=z at hv;cases hv;rfl
   refine wpIn_cond_false he (waJ (bG q fr H _ _ _ h2 B lo0 m a w ro hR hf) fun e a' w' hp=>fU.after (.refl hR) (fun _ _=>rfl) (fun t h' h=>h' (by simp[writesOf,h])) hp)
  ·simp at h2
 |block id x=>
  simp only[runWith,we]at h
  obtain⟨⟨cI,dV,H₁⟩,h1,h2⟩:=h
  refine wpIn_block (waJ (bG x fr H _ _ _ h1 B lo0 m a w ro hR hf) fun e a₁ w₁ ⟨he,m₁,hg,fE,ht⟩=>?_)
  have jh:∀ t,t∉writesOf (.block id x)→a₁.tmps[t]? =a.tmps[t]? :=fun t h'=>ht t fun h=>h' (by simp[writesOf,h])
  subst he
  cases cI with
  |normal=>
   simp only[wi,wk]at h2
   obtain⟨rfl,rfl,rfl⟩:=h2
   exact⟨rfl,m₁,hg,fE,jh⟩
  |ret=>
   simp only[wi,wk]at h2
   obtain⟨rfl,rfl,rfl⟩:=h2
   exact⟨rfl,m₁,hg,fE,jh⟩
  |exit i=>
   simp only at h2
   cases hb:Nat.beq i id with
   |true=>
    rw[hb]at h2
    simp only[wai,wi,wk]at h2
    obtain⟨rfl,rfl,rfl⟩:=h2
    have:i=id:=by simpa using hb
    simp only[Ex.to,Exit.inBlock,this,wah]
    exact⟨rfl,m₁,hg,fE,jh⟩
   |false=>
    rw[hb]at h2
    simp only[wS,wi,wk]at h2
    obtain⟨rfl,rfl,rfl⟩:=h2
    have:¬ i=id:=fun h=>by subst h;simp at hb
    simp only[Ex.to,Exit.inBlock,this,waa]
    exact⟨rfl,m₁,hg,fE,jh⟩
 |loop x=>
  cases hh:headNext x with
  |none=>
   obtain⟨N,hN⟩:=hL x fr H ex bl H' hh h
   exact wpIn_loop_rounds N (hN B lo0 m a w ro hR hf)
  |some it=>
   simp only[runWith,hh]at h
   cases hg:x8 fr.T H it with
   |false=>
    rw[hg]at h
    exact Vn hE hO bG hR hf hh h
   |true=>
    rw[hg]at h
    exact Wh bG hR hf h
 |scope x=>
  simp only[runWith]at h
  refine We (waJ (bG x fr H _ _ _ h B lo0 m a w ro hR hf) fun e a' w' hp=>fU.after (.refl hR) (fun _ _=>rfl) (fun t h' h=>h' (by simp[writesOf,h])) hp) fun l a w h=>?_
  have:=h.1
  cases ex<;>cases this
 |rangeFunc g ps assign body=>
  simp only[runWith]at h
  cases hr:fr.round with
  |some l=>rw[hr]at h;simp at h
  |none=>
   rw[hr]at h
   simp only[we]at h
   obtain⟨gv,h1,h2⟩:=h
   exact Wf hE bG hR hf hr h1 h2
 |_=>simp[runWith]at h
theorem AO(hE:EnvOk E)(hO:OrcOk E):∀ n,oD E (run E n)∧D9 E (run E n)
 |0=>⟨fun c fr H ex bl H' h=>by simp[run]at h,fun c fr H ex bl H' _ h=>by simp[run]at h⟩
 |n+1=>Wi hE hO (GV hO.low n) (AO hE hO n).1 (AO hE hO n).2
end
section
variable[Maps]{B lo0:Nat}{m:Match}{H:Heap}{w:World}{E:Env}
structure Old(B:Nat)(w w':World):Prop where
 ax:∀ b,b<B→w'.heap[b]? =w.heap[b]?
 size:w.heap.size≤w'.heap.size
 os:w'.os=w.os∧w'.output=w.output
end
section
variable{B lo0:Nat}{m:Match}{w:World}{P:Program}
theorem Old.refl(B:Nat)(w:World):Old B w w:=⟨fun _ _=>rfl,wy _,rfl,rfl⟩
theorem Old.trans{w w' fD:World}(h:Old B w w')(h':Old B w' fD):Old B w fD:=
 ⟨fun b hb=>(h'.ax b hb).trans (h.ax b hb),wK h.size h'.size,h'.os.1.trans h.os.1,h'.os.2.trans h.os.2⟩
end
section
variable[Maps]{B lo0:Nat}{m:Match}{H:Heap}{w:World}{E:Env}
theorem Good.aT{m':Match}{H':Heap}{w':World}(hR:Rel B H.lo m H w)(h:Good B H.lo m H w m' H' w'):Old B w w':=
 ⟨fun b hb=>h.frame b (wq hb hR.base) fun r p hr hl kh=>by have:=(hR.dom r p hr).2.2.1 hl;omega,h.size,h.os⟩
theorem Rel.AN(hR:Rel B lo0 m H w){H':Heap}(ho:∀ r o,H'.objs.get r=some o→H.objs.get r=some o)(hg:∀ g l,H'.grps.get g=some l→H.grps.get g=some l)(hn:H'.next=H.next)(hl:H'.lo=H.lo):Rel B lo0 m H' w where
 base:=hR.base
 fJ:=hR.fJ
 lo:=by rw[hl];exact hR.lo
 ag:=by rw[hl,hn];exact hR.ag
 dom:=by rw[hn];exact hR.dom
 obj r p o h h':=hR.obj r p o h (ho r o h')
 sep r r' p p' o o' aX an h h' h1 h2 he:=hR.sep r r' p p' o o' aX an h h' (ho _ _ h1) (ho _ _ h2) he
 dw r r' p p' c c' g z z' h h' h1 h2:=hR.dw r r' p p' c c' g z z' h h' (ho _ _ h1) (ho _ _ h2)
 aT r p c g z h h1 l AP:=hR.aT r p c g z h (ho _ _ h1) l (hg g l AP)
 ends r r' p p' c c' g z z' t h h' h1 h2 he:=hR.ends r r' p p' c c' g z z' t h h' (ho _ _ h1) (ho _ _ h2) he
 bK r p c g z t h h1:=by rw[hn];exact hR.bK r p c g z t h (ho _ _ h1)
def Tr.DA{α:Type}:List (Nat×α)→Tr α→Tr α
 |[],s=>s
 |x::l,s=>(s.set x.1 x.2).force fun s=>Tr.DA l s
def Tr.pairs{α:Type}(l:List (Nat×α)):Tr α:=Tr.DA l Tr.nil
def flat:Code→List Code
 | .seq a b=>flat a++flat b
 |c=>[c]
def og(P:Program)(Q:Exit→Act→World→Prop):List Code→Act→World→Prop
 |[],a,w=>Q .normal a w
 |c::l,a,w=>c.wpIn (fg none) 0 P (Exit.then (og P Q l) Q) a w
end
section
variable{B lo0:Nat}{m:Match}{w:World}{P:Program}
theorem NW{P:Program}{Q:Exit→Act→World→Prop}:∀ (l l':List Code) (a:Act) (w:World),og P Q (l++l') a w→og P (Exit.then (og P Q l') Q) l a w
 |[],l',a,w,h=>h
 |c::l,l',a,w,h=>by
  refine waJ h fun e a' w' he=>?_
  cases e<;>first|exact NW l l' _ _ he|exact he
theorem Wt{P:Program}:∀ (c:Code) {Q:Exit→Act→World→Prop} {a:Act} {w:World},og P Q (flat c) a w→c.wpIn (fg none) 0 P Q a w:=by
 have one:∀ (c:Code) {Q:Exit→Act→World→Prop} {a:Act} {w:World},og P Q [c] a w→c.wpIn (fg none) 0 P Q a w:=fun c Q a w h=>
  waJ h fun e a' w' he=>by cases e<;>exact he
 intro c
 induction c with
 |seq x y G7 MD=>
  intro Q a w h
  refine wpIn_seq (G7 ?_)
  have:=NW (flat x) (flat y) a w h
  have mono:∀ (l:List Code) (N N':Exit→Act→World→Prop),(∀e a w,N e a w→N' e a w)→∀ a w,og P N l a w→og P N' l a w:=by
   intro l N N' hN
   induction l with
   |nil=>intro a w h;exact hN _ _ _ h
   |cons c l ih=>
    intro a w h
    refine waJ h fun e a' w' he=>?_
    cases e<;>first|exact ih _ _ he|exact hN _ _ _ he
  refine mono _ _ _ (fun e a w he=>?_) a w this
  cases e<;>first|exact MD he|exact he
 |_=>intro Q a w h;exact one _ h
end
section
variable[Maps]{B lo0:Nat}{m:Match}{H:Heap}{w:World}{E:Env}
def runL(run:Code→Fr→Heap→Option (Ex×Fr×Heap)):List Code→Fr→Heap→Option (Ex×Fr×Heap)
 |[],fr,H=>some (.normal,fr,H)
 |c::l,fr,H=>(run c fr H).bind fun r=>
  match r.1 with
  | .normal=>runL run l r.2.1 r.2.2
  |e=>some (e,r.2)
theorem HO{run:Code→Fr→Heap→Option (Ex×Fr×Heap)}(bG:oD E run){Q:Exit→Act→World→Prop}{l2:List Code}:∀ (l:List Code) (fr:Fr) (H:Heap) (ex:Ex) (bl:Fr) (H':Heap) (m:Match) (a:Act) (w:World),
  runL run l fr H=some (ex,bl,H')→Rel B lo0 m H w→gB m fr a none→
  (∀a' w' m',Good B lo0 m H w m' H' w'→gB m' bl a' none→(ex= .normal→og E.P Q l2 a' w')∧(ex≠ .normal→Q ex.to a' w'))→og E.P Q (l++l2) a w
 |[],fr,H,ex,bl,H',m,a,w,h,hR,hf,hq=>by
  simp only[runL,wi,wk]at h
  obtain⟨rfl,rfl,rfl⟩:=h
  exact(hq a w m (.refl hR) hf).1 rfl
 |c::l,fr,H,ex,bl,H',m,a,w,h,hR,hf,hq=>by
  simp only[runL,we]at h
  obtain⟨⟨cI,dV,H₁⟩,h1,h2⟩:=h
  refine waJ (bG c fr H _ _ _ h1 B lo0 m a w none hR hf) fun e a₁ w₁ ⟨he,m₁,hg,fE,_⟩=>?_
  subst he
  cases cI with
  |normal=>
   exact HO bG l dV H₁ ex bl H' m₁ a₁ w₁ h2 hg.rel fE fun a' w' m' ic dQ=>hq a' w' m' (hg.trans ic) dQ
  |exit id=>
   simp only[wi,wk]at h2
   obtain⟨rfl,rfl,rfl⟩:=h2
   exact(hq a₁ w₁ m₁ hg fE).2 (by simp)
  |ret=>
   simp only[wi,wk]at h2
   obtain⟨rfl,rfl,rfl⟩:=h2
   exact(hq a₁ w₁ m₁ hg fE).2 (by simp)
def keepTr{α:Type}(t:Tr α):List Nat→Tr α→Tr α
 |[],s=>s
 |k::l,s=>match t.get k with
  |some x=>(s.set k x).force fun s=>keepTr t l s
  |none=>keepTr t l s
theorem HP{α:Type}{t:Tr α}{k:Nat}{v:α}:∀ {l:List Nat} {s:Tr α},(keepTr t l s).get k=some v→s.get k=some v∨t.get k=some v
 |[],s,h=> .inl h
 |j::l,s,h=>by
  simp only[keepTr]at h
  split at h
  ·rename_i x hx
   rw[Tr.force_eq]at h
   rcases HP h with h|h
   ·rcases Tr.dm h with⟨rfl,rfl⟩|⟨_,h⟩
    ·exact .inr hx
    ·exact .inl h
   ·exact .inr h
  ·exact HP h
theorem yt{α:Type}{t:Tr α}{k:Nat}{v:α}{l:List Nat}(h:(keepTr t l Tr.nil).get k=some v):t.get k=some v:=by
 rcases HP h with h|h
 ·simp[Tr.get_nil]at h
 ·exact h
def chunkN(E:Env)(n:Nat)(l:List Code)(kT kR kG:List Nat)(fr:Fr)(H:Heap):Option (Fr×Heap):=
 (runL (run E n) l fr H).bind fun r=>
  match r.1,r.2.1.marks with
  | .normal,[]=>(keepTr r.2.1.T kT Tr.nil).force fun T=>(keepTr r.2.2.objs kR Tr.nil).force fun O=>(keepTr r.2.2.grps kG Tr.nil).force fun G=>
    some ({T,size:=r.2.1.size,marks:=[],round:=none},{objs:=O,grps:=G,next:=r.2.2.next,lo:=r.2.2.lo})
  |_,_=>none
def endN(E:Env)(n:Nat)(fn:Func)(l:List Code)(fr:Fr)(H:Heap):Option Value:=
 (runL (run E n) l fr H).bind fun r=>
  match r.1 with
  | .exit _=>none
  |_=>(killMarks H.lo r.2.2.objs r.2.1.marks).bind fun t=>(resultsV E {objs:=t,grps:=r.2.2.grps,next:=r.2.2.next,lo:=r.2.2.lo} r.2.1.T fn.results.toList).bind fun vs=>some (jA vs)
def Fin(E:Env)(fn:Func)(B lo:Nat)(w:World)(v:Value):Exit→Act→World→Prop:=fun e a' w'=>(e= .normal∨e= .ret)∧Old B w w'∧
 ∃m' H' bl t vs,H'.lo=lo∧Rel B lo m' H' w'∧gB m' bl a' none∧killMarks lo H'.objs bl.marks=some t∧resultsV E {objs:=t,grps:=H'.grps,next:=H'.next,lo:=H'.lo} bl.T fn.results.toList=some vs∧jA vs=v
theorem Fin.aT{fn:Func}{lo:Nat}{w w₁:World}{v:Value}(h:Old B w w₁){e:Exit}{a':Act}{w':World}(hf:Fin E fn B lo w₁ v e a' w'):Fin E fn B lo w v e a' w':=⟨hf.1,h.trans hf.2.1,hf.2.2⟩
end
section
variable{B lo0:Nat}{m:Match}{w:World}{P:Program}
theorem NX{P:Program}{N N':Exit→Act→World→Prop}(hN:∀ e a w,N e a w→N' e a w):∀ (l:List Code) (a:Act) (w:World),og P N l a w→og P N' l a w
 |[],a,w,h=>hN _ _ _ h
 |c::l,a,w,h=>by
  refine waJ h fun e a' w' he=>?_
  cases e<;>first|exact NX hN l _ _ he|exact hN _ _ _ he
end
section
variable[Maps]{B lo0:Nat}{m:Match}{H:Heap}{w:World}{E:Env}
def Ends(E:Env)(fn:Func)(l:List Code)(fr:Fr)(H:Heap)(v:Value):Prop:=∀ B m a w,Rel B H.lo m H w→gB m fr a none→og E.P (Fin E fn B H.lo w v) l a w
theorem Ends.chunk(hE:EnvOk E)(hO:OrcOk E){fn:Func}{n:Nat}{l l2:List Code}{kT kR kG:List Nat}{fr nR:Fr}{H H2:Heap}{v:Value}(h:chunkN E n l kT kR kG fr H=some (nR,H2))(h2:Ends E fn l2 nR H2 v):Ends E fn (l++l2) fr H v:=by
 intro B m a w hR hf
 unfold chunkN at h
 simp only[we]at h
 obtain⟨⟨ex,sj,H1⟩,h3,h4⟩:=h
 simp only at h4
 split at h4
 ·rename_i hm
  simp only[Tr.force_eq,wi,wk]at h4
  obtain⟨rfl,rfl⟩:=h4
  refine HO (AO hE hO n).1 l fr H .normal sj H1 m a w h3 hR hf fun a' w' m' hg dQ=>?_
  refine⟨fun _=>?_,fun h=>absurd rfl h⟩
  have an:H1.lo=H.lo:=hg.lo
  have nQ:Rel B H1.lo m' {objs:=keepTr H1.objs kR Tr.nil,grps:=keepTr H1.grps kG Tr.nil,next:=H1.next,lo:=H1.lo} w':=by
   rw[an]
   have:=hg.rel.AN (H':={objs:=keepTr H1.objs kR Tr.nil,grps:=keepTr H1.grps kG Tr.nil,next:=H1.next,lo:=H1.lo}) (fun r o h=>yt h) (fun g l h=>yt h) rfl rfl
   simpa[an]using this
  have cG:gB m' {T:=keepTr sj.T kT Tr.nil,size:=sj.size,marks:=[],round:=none} a' none:=by
   refine⟨fun t v hv=>dQ.tmps t v (yt hv),dQ.size,?_,fun _=>rfl⟩
   have:=dQ.marks
   rw[hm]at this
   exact this
  have:=h2 B m' a' w' nQ cG
  simp only[an]at this
  exact NX (fun e a w hh=>hh.aT (hg.aT hR)) _ _ _ this
 ·simp at h4
theorem Ends.part(hE:EnvOk E)(hO:OrcOk E){fn:Func}{L:List Code}{n a k b:Nat}{kT kR kG:List Nat}{fr nR:Fr}{H H2:Heap}{v:Value}(h:chunkN E n ((L.drop a).take k) kT kR kG fr H=some (nR,H2))(hb:a+k=b)(h2:Ends E fn (L.drop b) nR H2 v):Ends E fn (L.drop a) fr H v:=by
 have:=Ends.chunk hE hO h h2
 rwa [←hb,←wbZ,List.take_append_drop]at this
theorem Ends.last(hE:EnvOk E)(hO:OrcOk E){fn:Func}{n:Nat}{l:List Code}{fr:Fr}{H:Heap}{v:Value}(h:endN E n fn l fr H=some v):Ends E fn l fr H v:=by
 intro B m a w hR hf
 unfold endN at h
 simp only[we]at h
 obtain⟨⟨ex,sj,H1⟩,h3,h4⟩:=h
 have hex:∀ id,ex≠ .exit id:=fun id he=>by subst he;simp at h4
 have h5:∃ t vs,killMarks H.lo H1.objs sj.marks=some t∧resultsV E {objs:=t,grps:=H1.grps,next:=H1.next,lo:=H1.lo} sj.T fn.results.toList=some vs∧jA vs=v:=by
  cases ex with
  |exit id=>exact absurd rfl (hex id)
  |_=>
   simp only[we,wi]at h4
   obtain⟨t,h5,vs,h6,h7⟩:=h4
   exact⟨t,vs,h5,h6,h7⟩
 obtain⟨t,vs,h5,h6,h7⟩:=h5
 have:=HO (AO hE hO n).1 (Q:=Fin E fn B H.lo w v) (l2:=[]) l fr H ex sj H1 m a w h3 hR hf fun a' w' m' hg dQ=>by
  have vy:∀ e,(e= .normal∨e= .ret)→Fin E fn B H.lo w v e a' w':=fun e he=>⟨he,hg.aT hR,m',H1,sj,t,vs,hg.lo,hg.rel,dQ,h5,h6,h7⟩
  refine⟨fun _=>vy _ (.inl rfl),fun hn=>?_⟩
  cases ex with
  |normal=>exact absurd rfl hn
  |ret=>exact vy _ (.inr rfl)
  |exit id=>exact absurd rfl (hex id)
 simpa using this
theorem calls_of_ends(hE:EnvOk E){g:FuncId}{fn:Func}{c:Code}{args:List Value}{bI:Array Value}{v:Value}(h1:E.fn.get g=some fn)(h2:fn.body=some c)(h3:args.length≤fn.ntmps)
  (h:Ends E fn (flat c) {T:=Tr.of args,size:=fn.ntmps,marks:=[],round:=none} H v) (hv:∀ m v',VRel m v v'→v'=v) (hR:Rel B H.lo m H w) (ha:LRel m args bI.toList):
  Calls E.P g bI w fun e w'=>e= .returned v∧Old B w w':=by
 rw[←callsIn_wide (n:=0)]
 have hf:=hE.fn g fn h1
 refine wcQ hf h2 trivial ?_
 have cG:gB m {T:=Tr.of args,size:=fn.ntmps,marks:=[],round:=none} {tmps:=bI++Array.replicate (fn.ntmps-bI.size) undef,defers:=[]} none:=by
  refine⟨fun t v hv=>?_,?_,trivial,fun _=>rfl⟩
  ·obtain⟨v',e1,e2⟩:=ha.get (Tr.Al hv)
   have:t<bI.size:=by simpa using(wD.1 e1).1
   exact⟨v',by rw[wcb this];simpa using e1,e2⟩
  ·have:=ha.1
   simp at this ⊢;omega
 refine waJ (Wt c (h B m _ w hR cG)) fun e a' w' hp=>?_
 obtain⟨he,hold,m',H',bl,t,vs,hl,nQ,dQ,hk,hr,hp⟩:=hp
 have tB:LeavesInM Fence.wide 0 E.P fn a'.tmps (fun e fD=>e= .returned v∧Old B w fD) a'.defers .returning w':=by
  refine Db (B:=B) (lo0:=H.lo) bl.marks a'.defers H' w' t dQ.marks nQ (by rw[hl];exact hk) fun fD ic=>?_
  obtain⟨v',r1,r2⟩:=FW hE ic.rel dQ.tmps hr
  rw[hp]at r2
  refine⟨v',r1,by rw[hv m' v' r2],hold.trans ?_⟩
  refine⟨fun b hb=>ic.frame b (wq hb nQ.base) fun r p GZ oL kh=>?_,ic.size,ic.os⟩
  have:=(nQ.dom r p GZ).2.2.1 (by rw[←hl];exact oL)
  omega
 rcases he with rfl|rfl
 ·exact tB
 ·exact tB
end
section
variable{B lo0:Nat}{m:Match}{w:World}{P:Program}
theorem plain_eq{v:Value}(h:plain1 v=true):∀ m v',VRel m v v'→v'=v:=by
 intro m v' hv
 cases hv<;>first|rfl|simp[plain1]at h
end
section
variable[Maps]{B lo0:Nat}{m:Match}{H:Heap}{w:World}{E:Env}
theorem rel_empty(w:World)(hg:GN≤w.heap.size∧GL w):Rel w.heap.size 0 (fun _=>none) Heap.empty w where
 base:=wy _
 fJ:=hg
 lo:=wy _
 ag:=wy _
 dom r p h:=by cases h
 obj r p o h:=by cases h
 sep r r' p p' o o' _ _ h:=by cases h
 dw r r' p p' c c' g z z' h:=by cases h
 aT r p c g z h:=by cases h
 ends r r' p p' c c' g z z' t h:=by cases h
 bK r p c g z t h:=by cases h
def orcOf(l:List (FuncId×Value)):cT:=fun f args H=>
 match f,args with
 | .func (.func g) first captured,[]=>
   bif first.toList.isEmpty&&captured.toList.isEmpty then(match l.find? fun x=>Nat.beq x.1 g with
    |some x=>some (x.2,H)
    |none=>none)else none
 |_,_=>none
def Env.with(E:Env)(o:cT):Env:={P:=E.P,ty:=E.ty,fn:=E.fn,orc:=o}
theorem EnvOk.with(hE:EnvOk E)(o:cT):EnvOk (E.with o):={hE with}
def Knows(E:Env)(x:FuncId×Value):Prop:=plain1 x.2=true∧(∃fn c,E.fn.get x.1=some fn∧fn.body=some c)∧∀ w,GN≤w.heap.size→GL w→Calls E.P x.1 #[] w fun e w'=>e= .returned x.2∧Old w.heap.size w w'
theorem orcOf_ok(hE:EnvOk E){l:List (FuncId×Value)}(h:∀ x∈l,Knows E x):OrcOk (E.with (orcOf l)):=by
 have inv:∀ {f:Value} {args:List Value} {H:Heap} {v:Value} {H':Heap},orcOf l f args H=some (v,H')→∃ x∈l,f= .func (.func x.1) #[] #[]∧args=[]∧v=x.2∧H'=H:=by
  intro f args H v H' hh
  unfold orcOf at hh
  split at hh
  ·rename_i g first captured
   obtain⟨h1,h2⟩:=cn hh
   split at h2
   ·rename_i x hx
    simp only[wi,wk]at h2
    simp only[wA,List.isEmpty_iff]at h1
    have hg:x.1=g:=by simpa using List.find?_some hx
    refine⟨x,List.mem_of_find?_eq_some hx,?_,rfl,h2.1.symm,h2.2.symm⟩
    rw[hg]
    have e1:first= #[]:=wba.1 h1.1
    have e2:captured= #[]:=wba.1 h1.2
    rw[e1,e2]
   ·simp at h2
  ·simp at hh
 refine⟨fun B lo0 f args H v H' hh m w f' bI hf ha hR=>?_,fun f args H v H' _ hh=>?_⟩
 ·obtain⟨x,hx,rfl,rfl,rfl,rfl⟩:=inv hh
  obtain⟨hp,⟨fn,c,h1,h2⟩,hc⟩:=h x hx
  cases hf with
  |func cG pk tF ra rb=>
   rename_i f₁ gj qs
   simp only[FnRel]at cG
   subst cG
   have e1:gj= #[]:=wba.1 (LRel.mG (m:=m) ⟨pk,ra⟩)
   have e2:qs= #[]:=wba.1 (LRel.mG (m:=m) ⟨tF,rb⟩)
   have e3:bI= #[]:=wba.1 ha.mG
   subst e1 e2 e3
   have iQ:(callFunc x.1 #[]).run E.P w= .ok (.enter x.1 #[]) w:=by
    simp only[callFunc,wB,run_program,wu,hE.fn x.1 fn h1,hE.num x.1 fn h1,h2,wG,waa,Option.isNone_some,wC]
   have:(do let d ←Deferred.ofValue (.func (.func x.1) #[] #[]) #[];invoke d.target d.args:Sem Next).run (E.with (orcOf l)).P w= .ok (.enter x.1 #[]) w:=by
    simp only[Deferred.ofValue,wB,wC,wu,invoke]
    exact iQ
   rw[this]
   show CallsIn Fence.wide 0 E.P x.1 #[] w _
   rw[callsIn_wide]
   refine(hc w (wK hR.fJ.1 hR.base) hR.fJ.2).mono fun e w' ⟨he,ho⟩=>⟨x.2,he,m,?_,HF hp⟩
   have nQ:Rel B lo0 m H' w':=by
    refine hR.hold ho.size (fun b hb=>ho.ax b (wq hb hR.base)) (fun r p o hr _=>ho.ax _ (hR.dom r p hr).2.1) (fun r o h=>h) rfl rfl hR.lo hR.ag
   exact⟨m.le_refl,nQ,fun _ _ h=> .inl h,fun r p h h'=>(by rw[h]at h';cases h'),wy _,rfl,fun b hb _=>ho.ax b hb,ho.size,fun _ _ _ h=>h,ho.os⟩
 ·obtain⟨x,_,_,_,_,rfl⟩:=inv hh
  exact .refl _
end
section
variable[Maps]{B lo0:Nat}{m:Match}{H:Heap}{w:World}{E:Env}
structure Ws(w w':World):Prop where
 ax:∀ b,b<w.heap.size→w'.heap[b]? =w.heap[b]?
 size:w.heap.size≤w'.heap.size
 os:w'.os=w.os∧w'.output=w.output
theorem Good.grown(hR:Rel B lo0 m H w){w':World}(h:Ws w w'):Good B lo0 m H w m H w':=by
 have nQ:Rel B lo0 m H w':=hR.hold h.size (fun b hb=>h.ax b (wq hb hR.base)) (fun r p o hr _=>h.ax _ (hR.dom r p hr).2.1) (fun r o h=>h) rfl rfl hR.lo hR.ag
 exact⟨m.le_refl,nQ,fun _ _ h=> .inl h,fun r p h h'=>(by rw[h]at h';cases h'),wy _,rfl,fun b hb _=>h.ax b hb,h.size,fun _ _ _ h=>h,h.os⟩
structure Told where
 g:FuncId
 f:List Value→Heap→Option (Value×Heap)
structure ziQ(E:Env)(x:Told):Prop where
 body:∃ fn c,E.fn.get x.g=some fn∧fn.body=some c
 low:∀ args H v H',H.lo≤H.next→x.f args H=some (v,H')→dv H H'
 De:∀ B lo0 m H w args (bI:Array Value) v H',x.f args H=some (v,H')→LRel m args bI.toList→Rel B lo0 m H w→Calls E.P x.g bI w fun e w'=>∃ v' m',e= .returned v'∧Good B lo0 m H w m' H' w'∧VRel m' v v'
end
section
variable[Maps]{B lo0:Nat}{m:Match}{H:Heap}{w:World}{E:Env}
def GO:Option Nat→Option Nat→Bool
 |none,none=>true
 |some a,some b=>Nat.beq a b
 |_,_=>false
def Dv:Option Addr→Option Addr→Bool
 |none,none=>true
 |some ⟨b,o,none⟩,some ⟨b',o',none⟩=>Nat.beq b b'&&Nat.beq o o'
 |_,_=>false
def GP:Fn→Fn→Bool
 | .func a,.func b=>Nat.beq a b
 |_,_=>false
mutual
def vt:Nat→Value→Value→Bool
 |0,_,_=>false
 |n+1,a,b=>
  match a,b with
  | .bool x,.bool y=>(match x,y with
    |true,true=>true
    |false,false=>true
    |_,_=>false)
  | .int k x,.int k' y=>sameKind k k'&&eqI x y
  | .string s,.string t=>mJ s t
  | .pointer x,.pointer y=>Dv x y
  | .slice x l c,.slice y l' c'=>Dv x y&&Nat.beq l l'&&Nat.beq c c'
  | .map x,.map y=>GO x y
  | .nilFunc,.nilFunc=>true
  | .nilIface,.nilIface=>true
  | .func f x y,.func f' x' y'=>GP f f'&&qE n x.toList x'.toList&&qE n y.toList y'.toList
  | .iface t v,.iface t' v'=>Nat.beq t t'&&vt n v v'
  | .agg x,.agg y=>qE n x.toList y.toList
  | .tuple x,.tuple y=>qE n x.toList y.toList
  |_,_=>false
def qE:Nat→List Value→List Value→Bool
 |0,_,_=>false
 |n+1,x,y=>
  match x,y with
  |[],[]=>true
  |a::l,b::r=>vt n a b&&qE n l r
  |_,_=>false
end
def yr:List (Value×Value)→List (Value×Value)→Bool
 |[],[]=>true
 |x::l,y::r=>vt 1000 x.1 y.1&&vt 1000 x.2 y.2&&yr l r
 |_,_=>false
def GQ:Option (Nat×Nat)→Option (Nat×Nat)→Bool
 |none,none=>true
 |some (a,b),some (c,d)=>Nat.beq a c&&Nat.beq b d
 |_,_=>false
def GR:Bool→Bool→Bool
 |true,true=>true
 |false,false=>true
 |_,_=>false
def GS:AObj→AObj→Bool
 | .row c g t,.row c' g' t'=>qE 100000 c c'&&GQ g g'&&GR t t'
 | .map es,.map bb=>yr es bb
 | .defers,.defers=>true
 |_,_=>false
end
section
variable{B lo0:Nat}{m:Match}{w:World}{P:Program}
theorem UZ{a b:Option Nat}(h:GO a b=true):a=b:=by
 cases a<;>cases b<;>simp_all[GO]
theorem Mg{a b:Option Addr}(h:Dv a b=true):a=b:=by
 unfold Dv at h
 split at h<;>simp_all
theorem U0{a b:Fn}(h:GP a b=true):a=b:=by
 unfold GP at h
 split at h<;>simp_all
theorem U1{a b:Bool}(h:GR a b=true):a=b:=by cases a<;>cases b<;>simp_all[GR]
theorem U2{a b:Option (Nat×Nat)}(h:GQ a b=true):a=b:=by
 unfold GQ at h
 split at h<;>simp_all
theorem AK:∀ n,(∀a b,vt n a b=true→a=b)∧(∀a b,qE n a b=true→a=b)
 |0=>⟨fun a b h=>by simp[vt]at h,fun a b h=>by simp[qE]at h⟩
 |n+1=>by
  obtain⟨Mh,AL⟩:=AK n
  constructor
  ·intro a b h
   unfold vt at h
   split at h
   ·split at h<;>simp_all
   ·simp only[wA,gF,wbO]at h
    rw[vu h.1,h.2]
   ·rw[Dw h]
   ·rw[Mg h]
   ·simp only[wA,wbp]at h
    rw[Mg h.1.1,h.1.2,h.2]
   ·rw[UZ h]
   ·rfl
   ·rfl
   ·simp only[wA]at h
    rw[U0 h.1.1,wbW.1 (AL _ _ h.1.2),wbW.1 (AL _ _ h.2)]
   ·simp only[wA,wbp]at h
    rw[h.1,Mh _ _ h.2]
   ·rw[wbW.1 (AL _ _ h)]
   ·rw[wbW.1 (AL _ _ h)]
   ·simp at h
  ·intro a b h
   unfold qE at h
   split at h
   ·rfl
   ·simp only[wA]at h
    rw[Mh _ _ h.1,AL _ _ h.2]
   ·simp at h
theorem Mi:∀ {a b:List (Value×Value)},yr a b=true→a=b
 |[],[],_=>rfl
 |x::l,y::r,h=>by
  simp only[yr,wA]at h
  have h1:=(AK 1000).1 _ _ h.1.1
  have h2:=(AK 1000).1 _ _ h.1.2
  rw[Mi h.2,Prod.ext h1 h2]
 |[],_::_,h=>by simp[yr]at h
 |_::_,[],h=>by simp[yr]at h
end
section
variable[Maps]{B lo0:Nat}{m:Match}{H:Heap}{w:World}{E:Env}
theorem U3{a b:AObj}(h:GS a b=true):a=b:=by
 unfold GS at h
 split at h
 ·simp only[wA]at h
  rw[(AK 100000).2 _ _ h.1.1,U2 h.1.2,U1 h.2]
 ·rw[Mi h]
 ·rfl
 ·simp at h
structure Known where
 g:FuncId
 args:List Value
 objs:List (Nat×AObj)
 grps:List (Nat×List Nat)
 next:Nat
 lo:Nat
 v:Value
 H:Heap
def Known.heap(k:Known):Heap:={objs:=Tr.pairs k.objs,grps:=Tr.pairs k.grps,next:=k.next,lo:=k.lo}
def Dx(t:Tr AObj):List (Nat×AObj)→Bool
 |[]=>true
 |x::l=>(match t.get x.1 with
  |some o=>GS o x.2
  |none=>false)&&Dx t l
def Dy(t:Tr (List Nat)):List (Nat×List Nat)→Bool
 |[]=>true
 |x::l=>(match t.get x.1 with
  |some o=>eqNats o x.2
  |none=>false)&&Dy t l
def Known.fits(k:Known)(g:FuncId)(args:List Value)(H:Heap):Bool:=
 Nat.beq k.g g&&Nat.beq k.next H.next&&Nat.beq k.lo H.lo&&qE 100000 args k.args&&Dx H.objs k.objs&&Dy H.grps k.grps
def Dz(g:FuncId)(args:List Value)(H:Heap):List Known→Option Known
 |[]=>none
 |k::l=>bif k.fits g args H then some k else Dz g args H l
def orcK(l:List Known):cT:=fun f args H=>
 match f with
 | .func (.func g) first captured=>bif first.toList.isEmpty&&captured.toList.isEmpty then(Dz g args H l).bind fun k=>some (k.v,k.H)else none
 |_=>none
def knownRun(E:Env)(n:Nat)(k:Known)(kR kG:List Nat):Option (Value×Heap):=
 (callBody E (run E n) (.func (.func k.g) #[] #[]) k.args k.heap).bind fun r=>
  (keepTr r.2.objs kR Tr.nil).force fun O=>(keepTr r.2.grps kG Tr.nil).force fun G=>some (r.1,{objs:=O,grps:=G,next:=r.2.next,lo:=r.2.lo})
structure KOk(P:Program)(k:Known):Prop where
 De:∀ B lo0 m w (bI:Array Value),LRel m k.args bI.toList→Rel B lo0 m k.heap w→
  UpTo P (fun v' w'=>∃ m',Good B lo0 m k.heap w m' k.H w'∧VRel m' k.v v') ((do let d ←Deferred.ofValue (.func (.func k.g) #[] #[]) bI;invoke d.target d.args:Sem Next).run P w)
 low:k.lo≤k.next→dv k.heap k.H
theorem Good.AN{m':Match}{H' H2:Heap}{w':World}(h:Good B lo0 m H w m' H' w')(ho:∀ r o,H2.objs.get r=some o→H'.objs.get r=some o)(hg:∀ g l,H2.grps.get g=some l→H'.grps.get g=some l)(hn:H2.next=H'.next)(hl:H2.lo=H'.lo):Good B lo0 m H w m' H2 w':=
 ⟨h.le,h.rel.AN ho hg hn hl,h.new,h.ax,by rw[hn];exact h.ag,hl.trans h.lo,h.frame,h.size,fun r o hr hx=>h.low r o hr (ho r o hx),h.os⟩
theorem known_ok(hE:EnvOk E)(hO:OrcOk E){k:Known}{n:Nat}{kR kG:List Nat}(h:knownRun E n k kR kG=some (k.v,k.H)):KOk E.P k:=by
 unfold knownRun at h
 simp only[we,Tr.force_eq,wi,wk]at h
 obtain⟨⟨v,H1⟩,h1,h2,h3⟩:=h
 refine⟨fun B lo0 m w bI ha hR=>?_,fun hl=>?_⟩
 ·have:=FZ hE (AO hE hO n).1 (B:=B) (lo0:=lo0) _ _ _ _ _ h1 m w (.func (.func k.g) #[] #[]) bI (.func rfl rfl rfl (fun i v v' h=>by simp at h) (fun i v v' h=>by simp at h)) ha hR
  refine this.mono fun v' w' ⟨m',hg,hv⟩=>⟨m',?_,by rw[←h2];exact hv⟩
  rw[←h3]
  exact hg.AN (fun r o h=>yt h) (fun g l h=>yt h) rfl rfl
 ·have:=GU (GV hO.low n) _ _ _ _ _ hl h1
  rw[←h3]
  exact⟨this.lo,this.ag,fun r o hr hx=>this.low r o hr (yt hx)⟩
theorem Mj{α:Type}{k:Nat}{v:α}:∀ {l:List (Nat×α)} {s:Tr α},(Tr.DA l s).get k=some v→(k,v)∈l∨s.get k=some v
 |[],s,h=> .inr h
 |x::l,s,h=>by
  simp only[Tr.DA,Tr.force_eq]at h
  rcases Mj h with h|h
  ·exact .inl (wM _ h)
  ·rcases Tr.dm h with⟨h1,h2⟩|⟨_,h⟩
   ·left;rw[h1,h2];exact wW ..
   ·exact .inr h
theorem Mk{α:Type}{k:Nat}{v:α}{l:List (Nat×α)}(h:(Tr.pairs l).get k=some v):(k,v)∈l:=by
 rcases Mj h with h|h
 ·exact h
 ·simp[Tr.get_nil]at h
theorem Ml{t:Tr AObj}:∀ {l:List (Nat×AObj)},Dx t l=true→∀ x∈l,t.get x.1=some x.2
 |y::l,h,x,hx=>by
  simp only[Dx,wA]at h
  rcases wad.1 hx with rfl|hx
  ·have h1:=h.1
   split at h1
   ·rename_i o ho;rw[ho,U3 h1]
   ·cases h1
  ·exact Ml h.2 x hx
theorem Mm{t:Tr (List Nat)}:∀ {l:List (Nat×List Nat)},Dy t l=true→∀ x∈l,t.get x.1=some x.2
 |y::l,h,x,hx=>by
  simp only[Dy,wA]at h
  rcases wad.1 hx with rfl|hx
  ·have h1:=h.1
   split at h1
   ·rename_i o ho
    have:∀ {a b:List Nat},eqNats a b=true→a=b:=by
     intro a
     induction a with
     |nil=>intro b h;cases b<;>simp_all[eqNats]
     |cons c a ih=>
      intro b h
      cases b with
      |nil=>simp[eqNats]at h
      |cons d b=>
       simp only[eqNats,wA,wbp]at h
       rw[h.1,ih h.2]
    rw[ho,this h1]
   ·cases h1
  ·exact Mm h.2 x hx
theorem Mn{g:FuncId}{args:List Value}{k:Known}:∀ {l:List Known},Dz g args H l=some k→k∈l∧k.fits g args H=true
 |x::l,h=>by
  simp only[Dz]at h
  cases hf:x.fits g args H with
  |true=>
   rw[hf]at h
   simp only[wai,wi]at h
   subst h
   exact⟨wW ..,hf⟩
  |false=>
   rw[hf]at h
   obtain⟨h1,h2⟩:=Mn h
   exact⟨wM _ h1,h2⟩
theorem orcK_ok{l:List Known}(h:∀ k∈l,KOk E.P k):OrcOk (E.with (orcK l)):=by
 have inv:∀ {f:Value} {args:List Value} {H:Heap} {v:Value} {H':Heap},orcK l f args H=some (v,H')→∃ k∈l,f= .func (.func k.g) #[] #[]∧args=k.args∧v=k.v∧H'=k.H∧H.next=k.next∧H.lo=k.lo∧
   (∀r o,k.heap.objs.get r=some o→H.objs.get r=some o)∧(∀g l,k.heap.grps.get g=some l→H.grps.get g=some l):=by
  intro f args H v H' hh
  unfold orcK at hh
  split at hh
  ·rename_i g first captured
   obtain⟨h1,h2⟩:=cn hh
   simp only[we,wi,wk]at h2
   obtain⟨k,h3,h4,h5⟩:=h2
   obtain⟨h6,h7⟩:=Mn h3
   simp only[Known.fits,wA,wbp]at h7
   obtain⟨⟨⟨⟨⟨e1,e2⟩,e3⟩,e4⟩,e5⟩,e6⟩:=h7
   simp only[wA,List.isEmpty_iff]at h1
   have e7:first= #[]:=wba.1 h1.1
   have e8:captured= #[]:=wba.1 h1.2
   refine⟨k,h6,by rw[e7,e8,e1],(AK 100000).2 _ _ e4,h4.symm,h5.symm,e2.symm,e3.symm,fun r o hr=>Ml e5 _ (Mk hr),fun g l hg=>Mm e6 _ (Mk hg)⟩
  ·simp at hh
 refine⟨fun B lo0 f args H v H' hh m w f' bI hf ha hR=>?_,fun f args H v H' an hh=>?_⟩
 ·obtain⟨k,hk,rfl,rfl,rfl,rfl,hn,hl,ho,hg⟩:=inv hh
  cases hf with
  |func cG pk tF ra rb=>
   rename_i f₁ gj qs
   simp only[FnRel]at cG
   subst cG
   have e1:gj= #[]:=wba.1 (LRel.mG (m:=m) ⟨pk,ra⟩)
   have e2:qs= #[]:=wba.1 (LRel.mG (m:=m) ⟨tF,rb⟩)
   subst e1 e2
   have U4:Rel B lo0 m k.heap w:=hR.AN ho hg hn.symm hl.symm
   refine((h k hk).De B lo0 m w bI ha U4).mono fun v' w' ⟨m',qF,hv⟩=>⟨m',?_,hv⟩
   have Mo:k.heap.next=H.next:=hn.symm
   have fL:k.heap.lo=H.lo:=hl.symm
   exact⟨qF.le,qF.rel,fun r p hp=>by rw[←Mo];exact qF.new r p hp,fun r p hp hm=>by rw[←fL];exact qF.ax r p hp hm,by rw[←Mo];exact qF.ag,by rw[←fL];exact qF.lo,
    fun b hb hf=>qF.frame b hb fun r p hr an=>hf r p hr (by rw[←fL];exact an),qF.size,fun r o hr hx=>ho r o (qF.low r o (by rw[fL];exact hr) hx),qF.os⟩
 ·obtain⟨k,hk,_,_,_,rfl,hn,hl,ho,_⟩:=inv hh
  have:=(h k hk).low (by rw[←hn,←hl];exact an)
  exact⟨this.lo.trans hl.symm,by rw[hn];exact this.ag,fun r o hr hx=>ho r o (this.low r o (by show r<k.lo;rw[←hl];exact hr) hx)⟩
end
end Go.AM
namespace Go.AM
open Go.ChangeShapes Go.WideShapes Go.ChangeAt Go.RowKit
section
variable{H:Type}{enc:TypeId×Value→H}{P:Program}
theorem Old.keptBut{W W':World}(h:Old W.heap.size W W')(Mq:MemPlace→Prop):W.keptBut W' Mq:=by
 refine⟨h.os.1,h.os.2,fun i hi=>?_⟩
 rw[h.ax i hi]
 cases W.heap[i]? with
 |none=>rfl
 |some o=>cases o<;>simp
theorem Old.sameAt{W W':World}(h:Old W.heap.size W W'){p:MemPlace}(hp:p.block<W.heap.size):W.sameAt W' p:=by
 cases p with
 |cell b off=>exact World.cell?_of_block (h.ax b hp)
 |map b=>exact h.ax b hp
theorem Mr(hl:laidOutB P=true){W W':World}(ho:Old W.heap.size W W'):∀ {ts:List TypeId} {vs:List Value} {ds:List (DataW H)} {ps:List MemPlace},(∀t∈ts,P.readableRec t=true∧t<P.types.size)→
  DataW.TrodAll enc P W 0 (fun _=>true) true ts vs ds ps→(∀p∈ps,p.block<W.heap.size)→DataW.TrodAll enc P W' 0 (fun b=>decide (b<W.heap.size)) true ts vs ds ps
 |[],_,_,_,_,h,_=>by
  obtain⟨rfl,rfl,rfl⟩:=trodAll_nil h
  rfl
 |t::ts,_,_,_,hr,h,hp=>by
  obtain⟨v,vs1,d,ds1,a,b,rfl,rfl,rfl,h1,h2⟩:=trodAll_cons h
  refine trodAll_cons_mk (WideElems.Trod_stays hl (hr t (wW ..)).1 (hr t (wW ..)).2 h1 (fun p GX=>ho.sameAt (hp p (List.mem_append_left _ GX))) fun p GX=>by simpa using hp p (List.mem_append_left _ GX)) ?_
  exact Mr hl ho (fun t ht=>hr t (wM _ ht)) h2 fun p kh=>hp p (List.mem_append_right _ kh)
end
theorem law_lifted{C:Checked}{os:Os}{H:Type}{enc:TypeId×Value→H}{s:ChangeSpec}{f:FuncId}{fn:Func}{Ms:List PathCond}(own:ownKnob C.prog.godebug=none)(started:os.Started)(U7:C.prog.inits.idxOf? f=none)(hfn:C.prog.funcs[f]? =some fn)
  (witness:∃ (w:World) (tape:Tape) (i:Input),w.os=os∧(w.forCall tape i).Shaped C.prog∧i.vars=[]∧Input.okWide C.prog (w.forCall tape i) .any w.heap.size f i∧
   s.pre6 enc C.prog fn Ms false (w.forCall tape i).memory i.args∧({}:Assume).holds C.prog (lone (Frame.enter C.prog f i.args .normal) [] (w.forCall tape i)))
  (Mt:s.vars=[]) (hs:∀ ds:List (DataW H),ds.length=fn.params.size→s.fn H ds={results:=[.lit (.bool true)],args:=ds}) {tb:TypeId} (lO:fn.resultTypes= #[tb]) (qG:C.prog.underlying tb=some .bool)
  (U8:laidOutB C.prog=true) (U9:fn.params.toList.all (fun t=>C.prog.readableRec t&&decide (t<C.prog.types.size))=true)
  (calls:∀ (W:World) (base:Nat) (args:Array Value) (ds:List (DataW H)) (before:List MemPlace),(∀(j:Nat) t v,fn.params[j]? =some t→args[j]? =some v→Value.okWide C.prog W .any base t v)→
   DataW.TrodAll enc C.prog W 0 (fun _=>true) true fn.params.toList args.toList ds before→(∀p∈before,p.block<W.heap.size)→W.noneFrozen before→
   Calls C.prog f args W fun e W'=>e= .returned (.bool true)∧Old W.heap.size W W'):
  ReturnsInHanded {} C os f .any (s.pre6 enc C.prog fn Ms false) (s.post enc C.prog fn false true false false):=by
 refine returnsInHanded_of_change (C:=C) own started U7 hfn witness ?_
 intro W base args ds gs before hval hW ziI _
 have GY:=hW
 obtain⟨p,q,hA,hV,rfl,hfz,yu⟩:=hW
 rw[Mt]at hV
 obtain⟨rfl,rfl⟩:=trodVars_none hV
 simp only[waw]at GY hfz
 have hlt:∀ x∈p,x.block<W.heap.size:=fun x hx=>by simpa using GY.lt x hx
 refine(calls W base args ds p hval hA hlt hfz).mono fun e W' ⟨he,ho⟩=>?_
 subst he
 have bj:ds.length=fn.params.size:=by
  have key:∀ {ts:List TypeId} {vs:List Value} {ds:List (DataW H)} {ps:List MemPlace},DataW.TrodAll enc C.prog W 0 (fun _=>true) true ts vs ds ps→ds.length=ts.length:=by
   intro ts
   induction ts with
   |nil=>intro vs ds ps h;obtain⟨_,rfl,_⟩:=trodAll_nil h;rfl
   |cons t ts ih=>
    intro vs ds ps h
    obtain⟨v,vs1,d,ds1,a,b,rfl,rfl,rfl,h1,h2⟩:=trodAll_cons h
    simp[ih h2]
  have:=key hA
  simpa using this
 have hr:∀ t∈fn.params.toList,C.prog.readableRec t=true∧t<C.prog.types.size:=fun t ht=>by
  have:=waC.1 U9 t ht
  simpa using this
 refine⟨_,rfl,ds,[],p,[],p,[],GY,?_,?_,?_,?_,fun h=>by cases h⟩
 ·rw[waw,hs ds bj,lO]
  exact trodAll_cons_mk (shut_bool qG _) trodAll_mk0
 ·rw[waw,hs ds bj]
  exact Mr U8 ho hr hA hlt
 ·rw[waw,hs ds bj,Mt]
  rfl
 ·exact ho.keptBut _
end Go.AM
namespace Go.AM
open Go.ChangeShapes Go.WideShapes
end Go.AM
namespace Go.AM
section
variable[Maps]{E:Env}
def uf(r₁ r₂:Code→Fr→Heap→Option (Ex×Fr×Heap)):Prop:=∀ c fr H x,r₁ c fr H=some x→r₂ c fr H=some x
def yA(c₁ c₂:cT):Prop:=∀ f args H x,c₁ f args H=some x→c₂ f args H=some x
theorem DP{c₁ c₂:cT}(hc:yA c₁ c₂){T:Tr Value}{o:Oper}{H:Heap}{x:Value×Heap}(h:exOp E c₁ T o H=some x):exOp E c₂ T o H=some x:=by
 unfold exOp at h⊢
 cases ho:o.op<;>simp only[ho]at h⊢
 case call c=>
  simp only[we]at h
  obtain⟨args,h1,h⟩:=h
  simp only[h1,wo]
  cases lq:c.callee with
  |builtin b=>simp only[lq]at h ⊢;exact h
  |value f=>
   simp only[lq,we]at h⊢
   obtain⟨fv,h2,h3⟩:=h
   exact⟨fv,h2,hc _ _ _ _ h3⟩
  |invoke y name=>
   simp only[lq,we]at h⊢
   obtain⟨xv,h2,mm,h3,h4⟩:=h
   exact⟨xv,h2,mm,h3,hc _ _ _ _ h4⟩
 case makeMap t r=>cases r<;>exact h
 case next y b=>cases b<;>exact h
 all_goals exact h
theorem AZ{c₁ c₂:cT}(hc:yA c₁ c₂){all:List Oper}{size:Nat}:∀ {l:List Oper} {T:Tr Value} {H:Heap} {x:Tr Value×Heap},exOps E c₁ all size l T H=some x→exOps E c₂ all size l T H=some x
 |[],_,_,_,h=>h
 |o::l,T,H,x,h=>by
  simp only[exOps,ub]at h⊢
  split at h
  ·simp at h
  ·rename_i hw
   simp only[we]at h
   obtain⟨r,h1,T1,h2,h3⟩:=h
   simp only[hw,DP hc h1,wo,h2]
   exact AZ hc h3
  ·rename_i hw
   simp only[we]at h
   obtain⟨T1,h2,h3⟩:=h
   simp only[hw,h2,wo]
   exact AZ hc h3
theorem DQ{c₁ c₂:cT}(hc:yA c₁ c₂){all:List Oper}{size:Nat}:∀ {l:List Oper} {a9:List Info} {T:Tr Value} {H:Heap} {x:Tr Value×Heap},exDraw E c₁ all size l a9 T H=some x→exDraw E c₂ all size l a9 T H=some x
 |[],_,_,_,_,h=>h
 |o::l,[],T,H,x,h=>by simp[exDraw]at h
 |o::l,i::a9,T,H,x,h=>by
  simp only[exDraw,ub]at h⊢
  split at h
  ·simp at h
  ·rename_i hw
   obtain⟨ha,h⟩:=cn h
   simp only[we]at h
   obtain⟨r,h1,h⟩:=h
   obtain⟨hk,h⟩:=cn h
   simp only[we]at h
   obtain⟨T1,h2,h3⟩:=h
   simp only[hw,ha,wai,DP hc h1,wo,hk,h2]
   exact DQ hc h3
  ·rename_i hw
   simp only[we]at h
   obtain⟨T1,h2,h3⟩:=h
   simp only[hw,h2,wo]
   exact DQ hc h3
theorem VD{c₁ c₂:cT}(hc:yA c₁ c₂){ops:Array Oper}{size:Nat}{T:Tr Value}{H:Heap}{x:Tr Value×Heap}(h:rO E c₁ ops size T H=some x):rO E c₂ ops size T H=some x:=by
 unfold rO at h⊢
 obtain⟨h0,h⟩:=cD h
 simp only[we]at h
 obtain⟨a9,h1,r,h2,h3⟩:=h
 simp only[h0,wS,h1,wo,DQ hc h2]
 exact h3
theorem MX{r₁ r₂:Code→Fr→Heap→Option (Ex×Fr×Heap)}(hr:uf r₁ r₂):yA (callBody E r₁) (callBody E r₂):=by
 intro f args H x h
 simp only[callBody,we]at h⊢
 obtain⟨p,h1,h⟩:=h
 refine⟨p,h1,?_⟩
 split at h
 ·simp only[we]at h⊢
  obtain⟨fn,k1,h⟩:=h
  refine⟨fn,k1,?_⟩
  split at h
  ·exact h
  rename_i hb
  obtain⟨k3,h⟩:=cD h
  simp only[we]at h
  obtain⟨r,k4,h⟩:=h
  simp only[hb,k3,wS,hr _ _ _ _ k4,wo]
  exact h
 ·split at h
  ·rename_i dg
   obtain⟨k1,h⟩:=cD h
   simp only[we]at h
   obtain⟨T',k2,r,k3,h⟩:=h
   simp only[dg,k1,wS,k2,wo,hr _ _ _ _ k3]
   split at h
   ·rename_i he
    simp only[we]at h
    obtain⟨H2,k4,r2,k5,h⟩:=h
    simp only[he,k4,wo,hr _ _ _ _ k5]
    exact h
   ·simp at h
  ·simp at h
 ·simp at h
theorem vB{r₁ r₂:Code→Fr→Heap→Option (Ex×Fr×Heap)}(hr:uf r₁ r₂):yA (fQ E r₁) (fQ E r₂):=by
 intro f args H x h
 unfold fQ at h⊢
 cases ho:E.orc f args H with
 |some r=>rw[ho]at h;exact h
 |none=>rw[ho]at h;exact MX hr _ _ _ _ h
theorem vA{r₁ r₂:Code→Fr→Heap→Option (Ex×Fr×Heap)}(hr:uf r₁ r₂){v:Value}:∀ (c:Code) {fr:Fr} {H:Heap} {x:Ex×Fr×Heap},runHead E r₁ v c fr H=some x→runHead E r₂ v c fr H=some x
 | .seq a b,fr,H,x,h=>by
   simp only[runHead,we]at h⊢
   obtain⟨r,h1,h2⟩:=h
   refine⟨r,vA hr a h1,?_⟩
   split at h2
   ·exact hr _ _ _ _ h2
   ·exact h2
 | .region id ops d,fr,H,x,h=>by
   simp only[runHead]at h⊢
   split at h
   ·rename_i hl
    simp only[hl,we]at h⊢
    obtain⟨T,h1,r,h2,h3⟩:=h
    exact⟨T,h1,r,AZ (vB hr) h2,h3⟩
   ·simp at h
 | .skip,_,_,_,h| .cond ..,_,_,_,h| .block ..,_,_,_,h| .loop ..,_,_,_,h| .rangeFunc ..,_,_,_,h| .exit ..,_,_,_,h| .scope ..,_,_,_,h
 | .label ..,_,_,_,h| .goto ..,_,_,_,h| .ret,_,_,_,h| .refuse ..,_,_,_,h=>by simp[runHead]at h
theorem AY{r₁ r₂:Code→Fr→Heap→Option (Ex×Fr×Heap)}(hr:uf r₁ r₂){c:Code}{fr:Fr}{H:Heap}{r:Nat}{m:Option Nat}{n:Nat}:∀ {es:List (Value×Value)} {i:Nat} {acc o:Option (List (Tmp×Value))},roundsV E r₁ c fr H r m n es i acc=some o→roundsV E r₂ c fr H r m n es i acc=some o
 |[],_,_,_,h=>h
 |e::es,i,acc,o,h=>by
  simp only[roundsV]at h⊢
  split at h
  ·rename_i bG
   rw[vA hr c bG]
   obtain⟨k,h⟩:=cn h
   simp only[k,wai]
   split at h
   ·exact AY hr h
   ·exact AY hr h
   ·simp at h
  ·simp at h
theorem VE{r₁ r₂:Code→Fr→Heap→Option (Ex×Fr×Heap)}(hr:uf r₁ r₂):uf (runWith E r₁) (runWith E r₂):=by
 intro c fr H x h
 cases c with
 |region id ops d=>
  cases d with
  |false=>
   simp only[runWith,we]at h⊢
   obtain⟨r,h1,h2⟩:=h
   exact⟨r,AZ (vB hr) h1,h2⟩
  |true=>
   simp only[runWith,we]at h⊢
   obtain⟨r,h1,h2⟩:=h
   exact⟨r,VD (vB hr) h1,h2⟩
 |seq a b=>
  simp only[runWith,we]at h⊢
  obtain⟨r,h1,h2⟩:=h
  refine⟨r,hr _ _ _ _ h1,?_⟩
  split at h2
  ·exact hr _ _ _ _ h2
  ·exact h2
 |cond x a b=>
  simp only[runWith,we]at h⊢
  obtain⟨v,h1,h2⟩:=h
  refine⟨v,h1,?_⟩
  split at h2
  ·exact hr _ _ _ _ h2
  ·exact hr _ _ _ _ h2
  ·simp at h2
 |block id a=>
  simp only[runWith,we]at h⊢
  obtain⟨r,h1,h2⟩:=h
  exact⟨r,hr _ _ _ _ h1,h2⟩
 |loop a=>
  simp only[runWith]at h⊢
  cases hh:headNext a with
  |some it=>
   rw[hh]at h
   simp only at h⊢
   cases hg:x8 fr.T H it with
   |true=>
    rw[hg]at h
    simp only[wai]at h⊢
    unfold Aq at h⊢
    simp only[we]at h⊢
    obtain⟨r,h1,h2⟩:=h
    refine⟨r,hr _ _ _ _ h1,?_⟩
    split at h2
    ·simp only[we]at h2⊢
     obtain⟨r2,h3,h4⟩:=h2
     exact⟨r2,hr _ _ _ _ h3,h4⟩
    ·exact h2
   |false=>
   rw[hg]at h
   simp only[wS]at h⊢
   unfold mapLoop at h⊢
   simp only[Tr.force_eq,we]at h⊢
   obtain⟨MF,h1,h⟩:=h
   refine⟨MF,h1,?_⟩
   split at h
   ·split at h
    ·rename_i ho
     simp only[ho,we]at h⊢
     obtain⟨es,h2,h⟩:=h
     obtain⟨k,h⟩:=cD h
     simp only[we]at h
     obtain⟨o,k2,h⟩:=h
     refine⟨es,h2,?_⟩
     simp only[k,wS,AY hr k2,wo]
     cases o with
     |some vs=>exact h
     |none=>
      simp only[we]at h⊢
      obtain⟨r,h3,h4⟩:=h
      exact⟨r,vA hr _ h3,h4⟩
    ·simp at h
   ·simp at h
  |none=>
   rw[hh]at h
   simp only[we]at h⊢
   obtain⟨r,h1,h2⟩:=h
   refine⟨r,hr _ _ _ _ h1,?_⟩
   split at h2
   ·exact hr _ _ _ _ h2
   ·exact h2
 |scope a=>exact hr _ _ _ _ h
 |rangeFunc g ps a b=>
  simp only[runWith]at h⊢
  split at h
  ·simp at h
  ·rename_i A9
   simp only[we]at h⊢
   obtain⟨gv,h1,h⟩:=h
   refine⟨gv,h1,?_⟩
   unfold rangeV at h⊢
   simp only at h⊢
   split at h
   ·simp only[we]at h⊢
    obtain⟨r,h2,h3⟩:=h
    refine⟨r,MX hr _ _ _ _ h2,?_⟩
    split at h3
    ·split at h3
     ·simp at h3
     ·rename_i dt
      split at h3
      ·exact h3
      ·split at h3
       ·exact hr _ _ _ _ h3
       ·exact hr _ _ _ _ h3
       ·simp at h3
    ·simp at h3
   ·simp at h
 |_=>exact h
theorem MY:∀ n,uf (run E n) (run E (n+1))
 |0=>fun c fr H x h=>by simp[run]at h
 |n+1=>VE (MY n)
theorem kg{n n':Nat}(h:n≤n'):uf (run E n) (run E n'):=by
 induction h with
 |refl=>exact fun _ _ _ _ h=>h
 |step _ ih=>exact fun c fr H x h=>MY _ c fr H x (ih c fr H x h)
end
inductive Tok where
 |go
 |stop
def Pf{α:Type}(_:α):Prop:=True
theorem pf{α:Type}{a:α}:Pf a:=trivial
def optP{α:Type}(_:Tok)(o:Option α)(k:Tok→α→Prop):Prop:=∃ a,o=some a∧k .go a
theorem Bl{α:Type}(a:α)(k:Tok→α→Prop):optP .go (some a) k=k .go a:=by simp[optP]
theorem NZ{α:Type}(k:Tok→α→Prop):optP .go (none:Option α) k=False:=by simp[optP]
@[congr] theorem optP_congr{α:Type}{t:Tok}{o o':Option α}{k:Tok→α→Prop}(h:o=o'):optP t o k=optP t o' k:=by rw[h]
def boolP(c:Bool)(P R:Tok→Prop):Prop:=(c=true→P .go)∧(c=false→R .go)
theorem yM(P R:Tok→Prop):boolP true P R=P .go:=by simp[boolP]
theorem HR(P R:Tok→Prop):boolP false P R=R .go:=by simp[boolP]
@[congr] theorem boolP_congr{c c':Bool}{P R:Tok→Prop}(h:c=c'):boolP c P R=boolP c' P R:=by rw[h]
def asBoolP(v:Value)(P R:Tok→Prop):Prop:=
 match v with
 | .bool c=>boolP c P R
 |_=>False
@[congr] theorem asBoolP_congr{c c':Value}{P R:Tok→Prop}(h:c=c'):asBoolP c P R=asBoolP c' P R:=by rw[h]
theorem N0(c:Bool)(P R:Tok→Prop):asBoolP (.bool c) P R=boolP c P R:=wE rfl rfl
section
variable[Maps]
def af(E:Env)(f:Value)(args:List Value)(H:Heap)(K:Value→Heap→Prop):Prop:=∃ n v H',fQ E (run E n) f args H=some (v,H')∧K v H'
def gi(E:Env)(sz:Nat)(c:Code)(T:Tr Value)(mk:List Nat)(ro:Option Nat)(H:Heap)(Q:Ex→Tr Value→List Nat→Heap→Prop):Prop:=
 ∃n ex T' br H',run E n c {T,size:=sz,marks:=mk,round:=ro} H=some (ex,{T:=T',size:=sz,marks:=br,round:=ro},H')∧Q ex T' br H'
def OP(_:Tok)(E:Env)(T:Tr Value)(o:Op)(H:Heap)(K:Tok→Value→Heap→Prop):Prop:=∃ n v H',exOp E (fQ E (run E n)) T {dst:=none,op:=o,type:=0,pos:=default,after:= #[],guard:=none} H=some (v,H')∧K .go v H'
def resP(_:Tok)(o:Option (Value×Heap))(K:Tok→Value→Heap→Prop):Prop:=∃ v H',o=some (v,H')∧K .go v H'
theorem fP(v:Value)(H:Heap)(K:Tok→Value→Heap→Prop):resP .go (some (v,H)) K=K .go v H:=by
 simp only[resP,wi,wk,eq_iff_iff]
 exact⟨fun⟨_,_,⟨h1,h2⟩,h⟩=>by rw[h1,h2];exact h,fun h=>⟨_,_,⟨rfl,rfl⟩,h⟩⟩
@[congr] theorem resP_congr{t:Tok}{o o':Option (Value×Heap)}{K:Tok→Value→Heap→Prop}(h:o=o'):resP t o K=resP t o' K:=by rw[h]
def jg(_:Tok)(sz:Nat)(T:Tr Value)(dst:Option Tmp)(v:Value)(k:Tok→Tr Value→Prop):Prop:=
 match dst with
 |none=>k .go T
 |some d=>d<sz∧k .go (T.set d v)
def wpOps(_:Tok)(E:Env)(all:List Oper)(_:Pf all)(sz:Nat):(l:List Oper)→Pf l→Tr Value→Heap→(Tok→Tr Value→Heap→Prop)→Prop
 |[],_,T,H,K=>K .go T H
 |o::rest,_,T,H,K=>
  optP .go (wantedA T all o) fun _ b=>boolP b (fun t=>OP t E T o.op H fun t v H'=>jg t sz T o.dst v fun t T'=>wpOps t E all pf sz rest pf T' H' K) (fun t=>jg t sz T o.dst undef fun t T'=>wpOps t E all pf sz rest pf T' H K)
def exP(_:Tok)(id:Nat)(ex:Ex)(P:Tok→Prop)(Q:Tok→Ex→Prop):Prop:=
 match ex with
 | .exit i=>(i=id∧P .go)∨(i≠id∧Q .go (.exit i))
 |e=>Q .go e
def sg(_:Tok)(ex:Ex)(P:Tok→Prop)(Q:Tok→Ex→Prop):Prop:=
 match ex with
 | .normal=>P .go
 |e=>Q .go e
def wp(_:Tok)(E:Env)(sz:Nat):(c:Code)→Pf c→Tr Value→List Nat→Option Nat→Heap→(Tok→Ex→Tr Value→List Nat→Heap→Prop)→Prop
 | .skip,_,T,mk,_,H,Q=>Q .go .normal T mk H
 | .label _,_,T,mk,_,H,Q=>Q .go .normal T mk H
 | .region id ops rQ,_,T,mk,ro,H,Q=>match rQ with
   |false=>wpOps .go E ops.toList pf sz ops.toList pf T H fun t T' H'=>Q t .normal T' mk H'
   |true=>gi E sz (.region id ops true) T mk ro H (Q .go)
 | .seq a b,_,T,mk,ro,H,Q=>wp .go E sz a pf T mk ro H fun t ex T' br H'=>sg t ex (fun t=>wp t E sz b pf T' br ro H' Q) fun t e=>Q t e T' br H'
 | .cond x a b,_,T,mk,ro,H,Q=>optP .go (ev T x) fun _ v=>asBoolP v (fun t=>wp t E sz a pf T mk ro H Q) (fun t=>wp t E sz b pf T mk ro H Q)
 | .block id a,_,T,mk,ro,H,Q=>wp .go E sz a pf T mk ro H fun t ex T' br H'=>exP t id ex (fun t=>Q t .normal T' br H') fun t e=>Q t e T' br H'
 | .scope a,_,T,mk,ro,H,Q=>wp .go E sz a pf T mk ro H Q
 | .exit id,_,T,mk,_,H,Q=>Q .go (.exit id) T mk H
 | .ret,_,T,mk,_,H,Q=>Q .go .ret T mk H
 |c,_,T,mk,ro,H,Q=>gi E sz c T mk ro H (Q .go)
variable{E:Env}{sz:Nat}
theorem N2{call:cT}{T:Tr Value}{o o':Oper}{H:Heap}(h:o.op=o'.op):exOp E call T o H=exOp E call T o' H:=by
 unfold exOp;rw[h]
theorem DL{all:List Oper}:∀ {t:Tok} {l:List Oper} {p1:Pf all} {p2:Pf l} {T:Tr Value} {H:Heap} {K:Tok→Tr Value→Heap→Prop},wpOps t E all p1 sz l p2 T H K→∃ n T' H',exOps E (fQ E (run E n)) all sz l T H=some (T',H')∧K .go T' H'
 |_,[],_,_,T,H,K,h=>⟨0,T,H,rfl,h⟩
 |_,o::l,_,_,T,H,K,h=>by
  obtain⟨b,hb,hk⟩:=h
  have put:∀ {v:Value} {H1:Heap},(jg .go sz T o.dst v fun t T'=>wpOps t E all pf sz l pf T' H1 K)→∃ T1,gQ sz T o.dst v=some T1∧∃ n T' H',exOps E (fQ E (run E n)) all sz l T1 H1=some (T',H')∧K .go T' H':=by
   intro v H1 hp
   unfold jg at hp
   unfold gQ
   cases hd:o.dst with
   |none=>rw[hd]at hp;exact⟨T,rfl,DL hp⟩
   |some d=>
    rw[hd]at hp
    have hb:Nat.blt d sz=true:=wP hp.1
    exact⟨T.set d v,by simp[hb,Tr.force_eq],DL hp.2⟩
  cases b with
  |true=>
   obtain⟨n1,v,H1,h1,h2⟩:=hk.1 rfl
   obtain⟨T1,h3,n2,T',H',h4,h5⟩:=put h2
   refine⟨max n1 n2,T',H',?_,h5⟩
   have e1:exOp E (fQ E (run E (max n1 n2))) T o H=some (v,H1):=by
    rw[N2 (o:=o) (o':={dst:=none,op:=o.op,type:=0,pos:=default,after:= #[],guard:=none}) rfl]
    exact DP (vB (kg (wbP ..))) h1
   simp only[exOps,hb,e1,wo,h3,ub]
   exact AZ (vB (kg (wbE ..))) h4
  |false=>
   obtain⟨T1,h3,n2,T',H',h4,h5⟩:=put (hk.2 rfl)
   refine⟨n2,T',H',?_,h5⟩
   simp only[exOps,hb,wo,h3]
   exact h4
theorem yq:∀ (c:Code) {t:Tok} {p:Pf c} {T:Tr Value} {mk:List Nat} {ro:Option Nat} {H:Heap} {Q:Tok→Ex→Tr Value→List Nat→Heap→Prop},wp t E sz c p T mk ro H Q→gi E sz c T mk ro H (Q .go):=by
 intro c
 induction c with
 |skip=>intro t p T mk ro H Q h;exact⟨1,_,_,_,_,rfl,h⟩
 |label l=>intro t p T mk ro H Q h;exact⟨1,_,_,_,_,rfl,h⟩
 |exit id=>intro t p T mk ro H Q h;exact⟨1,_,_,_,_,rfl,h⟩
 |ret=>intro t p T mk ro H Q h;exact⟨1,_,_,_,_,rfl,h⟩
 |region id ops d=>
  intro t p T mk ro H Q h
  cases d with
  |true=>exact h
  |false=>
   obtain⟨n,T',H',h1,h2⟩:=DL (show wpOps .go E ops.toList pf sz ops.toList pf T H (fun t T' H'=>Q t .normal T' mk H')from h)
   exact⟨n+1,.normal,T',mk,H',by simp only[run,runWith,h1,wo],h2⟩
 |seq a b pH vM=>
  intro t p T mk ro H Q h
  obtain⟨n,ex,T',br,H',h1,h2⟩:=pH (show wp .go E sz a pf T mk ro H _ from h)
  cases ex with
  |normal=>
   obtain⟨n2,ua,T2,yo,H2,h3,h4⟩:=vM (show wp .go E sz b pf T' br ro H' Q from h2)
   refine⟨max n n2+1,ua,T2,yo,H2,?_,h4⟩
   simp only[run,runWith,kg (wbP n n2) _ _ _ _ h1,wo]
   exact kg (wbE n n2) _ _ _ _ h3
  |ret=>exact⟨n+1,.ret,T',br,H',by simp only[run,runWith,h1,wo],h2⟩
  |exit id=>exact⟨n+1,.exit id,T',br,H',by simp only[run,runWith,h1,wo],h2⟩
 |cond x a b pH vM=>
  intro t p T mk ro H Q h
  obtain⟨v,hv,h⟩:=(show optP .go (ev T x) _ from h)
  unfold asBoolP at h
  split at h
  ·rename_i c
   cases c with
   |true=>
    obtain⟨n,ex,T',br,H',h1,h2⟩:=pH (h.1 rfl)
    exact⟨n+1,ex,T',br,H',by simp only[run,runWith,hv,wo,h1],h2⟩
   |false=>
    obtain⟨n,ex,T',br,H',h1,h2⟩:=vM (h.2 rfl)
    exact⟨n+1,ex,T',br,H',by simp only[run,runWith,hv,wo,h1],h2⟩
  ·exact h.elim
 |block id a pH=>
  intro t p T mk ro H Q h
  obtain⟨n,ex,T',br,H',h1,h2⟩:=pH (show wp .go E sz a pf T mk ro H _ from h)
  cases ex with
  |normal=>exact⟨n+1,.normal,T',br,H',by simp only[run,runWith,h1,wo],h2⟩
  |ret=>exact⟨n+1,.ret,T',br,H',by simp only[run,runWith,h1,wo],h2⟩
  |exit i=>
   rcases h2 with⟨hi,h2⟩|⟨hi,h2⟩
   ·exact⟨n+1,.normal,T',br,H',by simp[run,runWith,h1,hi],h2⟩
   ·refine⟨n+1,.exit i,T',br,H',?_,h2⟩
    have:Nat.beq i id=false:=by rw[waK];intro hh;exact hi (wbw hh)
    simp only[run,runWith,h1,wo,this,wS]
 |scope a pH=>
  intro t p T mk ro H Q h
  obtain⟨n,ex,T',br,H',h1,h2⟩:=pH (show wp .go E sz a pf T mk ro H Q from h)
  exact⟨n+1,ex,T',br,H',h1,h2⟩
 |_=>intro t p T mk ro H Q h;exact h
theorem gi.mono{c:Code}{T:Tr Value}{mk:List Nat}{ro:Option Nat}{H:Heap}{Q Q':Ex→Tr Value→List Nat→Heap→Prop}(h:gi E sz c T mk ro H Q)(hq:∀ ex T mk H,Q ex T mk H→Q' ex T mk H):gi E sz c T mk ro H Q':=by
 obtain⟨n,ex,T',br,H',h1,h2⟩:=h
 exact⟨n,ex,T',br,H',h1,hq _ _ _ _ h2⟩
theorem af.mono{f:Value}{args:List Value}{H:Heap}{K K':Value→Heap→Prop}(h:af E f args H K)(hk:∀ v H,K v H→K' v H):af E f args H K':=by
 obtain⟨n,v,H',h1,h2⟩:=h
 exact⟨n,v,H',h1,hk _ _ h2⟩
theorem wp_loop{c:Code}(hn:headNext c=none){T:Tr Value}{mk:List Nat}{ro:Option Nat}{H:Heap}{Q:Ex→Tr Value→List Nat→Heap→Prop}(I:Nat→Tr Value→Heap→Prop)(n0:Nat)(h0:I n0 T H)
  (step:∀ n T H,I n T H→wp .go E sz c pf T mk ro H fun t ex T' br H'=>sg t ex (fun _=>br=mk∧∃ m,m<n∧I m T' H') fun _ e=>Q e T' br H'):gi E sz (.loop c) T mk ro H Q:=by
 induction n0 using Nat.strongRecOn generalizing T H with
 |ind n0 ih=>
  obtain⟨n,ex,T',br,H',h1,h2⟩:=yq c (step n0 T H h0)
  cases ex with
  |normal=>
   obtain⟨rfl,m,hm,h3⟩:=h2
   obtain⟨n2,ua,T2,yo,H2,h4,h5⟩:=ih m hm h3
   refine⟨max n n2+1,ua,T2,yo,H2,?_,h5⟩
   simp only[run,runWith,hn,kg (wbP n n2) _ _ _ _ h1,wo]
   exact kg (wbE n n2) _ _ _ _ h4
  |ret=>exact⟨n+1,.ret,T',br,H',by simp only[run,runWith,hn,h1,wo],h2⟩
  |exit id=>exact⟨n+1,.exit id,T',br,H',by simp only[run,runWith,hn,h1,wo],h2⟩
theorem FO{c:Code}(hn:headNext c=none){T:Tr Value}{mk:List Nat}{ro:Option Nat}{H:Heap}{Q:Ex→Tr Value→List Nat→Heap→Prop}(I:Nat→Tr Value→Heap→Prop)(n0:Nat)(h0:I n0 T H)
  (step:∀ n T H,I n T H→∀ Qs:Tok→Ex→Tr Value→List Nat→Heap→Prop,(∀T' H' m,m<n→I m T' H'→Qs .go .normal T' mk H')→(∀T' br H',Q .ret T' br H'→Qs .go .ret T' br H')→(∀i T' br H',Q (.exit i) T' br H'→Qs .go (.exit i) T' br H')→wp .go E sz c pf T mk ro H Qs):gi E sz (.loop c) T mk ro H Q:=by
 refine wp_loop hn I n0 h0 fun n T H hI=>step n T H hI _ (fun T' H' m hm Wu=>⟨rfl,m,hm,Wu⟩) (fun T' br H' h=>h) (fun i T' br H' h=>h)
def yH(_:Tok)(ex:Ex)(P:Tok→Prop):Prop:=
 match ex with
 | .exit _=>False
 |_=>P .go
theorem yN{g:FuncId}{fn:Func}{c:Code}{first captured:Array Value}{args:List Value}{H:Heap}{K:Value→Heap→Prop}(ho:E.orc (.func (.func g) first captured) args H=none)(h1:E.fn.get g=some fn)(h2:fn.body=some c)(h3:Nat.ble (first.toList++args++captured.toList).length fn.ntmps=true)
  (h:wp .go E fn.ntmps c pf (Tr.of (first.toList++args++captured.toList)) [] none H fun t ex T' br H'=>yH t ex (fun t=>br=[]∧optP t (resultsV E H' T' fn.results.toList) fun _ vs=>K (jA vs) H')):af E (.func (.func g) first captured) args H K:=by
 obtain⟨n,ex,T',br,H',h4,h5⟩:=yq c h
 refine⟨n,?_⟩
 have key:∀ vs,br=[]→resultsV E H' T' fn.results.toList=some vs→(∀id,ex≠ .exit id)→fQ E (run E n) (.func (.func g) first captured) args H=some (jA vs,H'):=by
  intro vs hm hr hx
  subst hm
  unfold fQ
  rw[ho]
  simp only[callBody,target,wo,h1,h2,h3,wa7,wS,h4,killMarks,Tr.force_eq]
  cases ex with
  |exit id=>exact absurd rfl (hx id)
  |_=>simp only[hr,wo]
 cases ex with
 |exit id=>exact h5.elim
 |normal=>
  obtain⟨hm,vs,h6,h7⟩:=h5
  exact⟨_,H',key vs hm h6 (by simp),h7⟩
 |ret=>
  obtain⟨hm,vs,h6,h7⟩:=h5
  exact⟨_,H',key vs hm h6 (by simp),h7⟩
theorem Wv{g:FuncId}{fn:Func}{c:Code}{args:List Value}{H:Heap}{K:Value→Heap→Prop}(ho:E.orc (.func (.func g) #[] #[]) args H=none)(h1:E.fn.get g=some fn)(h2:fn.body=some c)(h3:Nat.ble args.length fn.ntmps=true)
  (h:wp .go E fn.ntmps c pf (Tr.of args) [] none H fun t ex T' br H'=>yH t ex (fun t=>br=[]∧optP t (resultsV E H' T' fn.results.toList) fun _ vs=>K (jA vs) H')):af E (.func (.func g) #[] #[]) args H K:=by
 refine yN ho h1 h2 (by simpa using h3) ?_
 simpa using h
end
attribute [local instance] fnMaps
section
variable{E:Env}{sz:Nat}
theorem fb{α:Type}(o:Option α)(f:α→Option (Value×Heap))(K:Tok→Value→Heap→Prop):resP .go (o.bind f) K=optP .go o fun t a=>resP t (f a) K:=by
 cases o<;>simp[resP,optP]
theorem HS{α β:Type}(o:Option α)(f:α→Option β)(k:Tok→β→Prop):optP .go (o.bind f) k=optP .go o fun t a=>optP t (f a) k:=by
 cases o<;>simp[optP]
theorem dm(T:Tr Value)(k j:Nat)(v:Value):(T.set k v).get j=if j=k then some v else T.get j:=by
 show(if j=k then some v else T j)=_
 by_cases h:j=k
 ·simp[h]
 ·simp[h];rfl
theorem of_nil:(Tr.of []:Tr Value)=Tr.nil:=wE rfl rfl
theorem N3(a:Value):Tr.of [a]=Tr.nil.set 0 a:=wE rfl rfl
theorem N4(a b:Value):Tr.of [a,b]=(Tr.nil.set 0 a).set 1 b:=wE rfl rfl
theorem N5(a b c:Value):Tr.of [a,b,c]=((Tr.nil.set 0 a).set 1 b).set 2 c:=wE rfl rfl
theorem Wy(T:Tr Value)(t:Tmp):ev T (.tmp t)=T.get t:=wE rfl rfl
theorem Wz(T:Tr Value)(f:FuncId):ev T (.func f)=some (.func (.func f) #[] #[]):=wE rfl rfl
theorem WA(T:Tr Value)(k:IntKind)(n:Int):ev T (.const (.int k n))=some (.int k n):=wE rfl rfl
theorem WB(T:Tr Value)(b:Bool):ev T (.const (.bool b))=some (.bool b):=wE rfl rfl
theorem WC(T:Tr Value):ev T (.const (.pointer none))=some (.pointer none):=wE rfl rfl
theorem WD(T:Tr Value)(l c:Nat):ev T (.const (.slice none l c))=some (.slice none l c):=wE rfl rfl
theorem HT(T:Tr Value)(all:List Oper)(d:Option Tmp)(o:Op)(t:TypeId)(p:String)(a:Array Edge):wantedA T all ⟨d,o,t,p,a,none⟩=some true:=wE rfl rfl
def wantV(o:Option Value)(want:Bool):Option Bool:=
 match o with
 |some (.bool b)=>some (b==want)
 |some (.tuple _)=>some false
 |_=>none
def guardV(T:Tr Value):Option Tmp→Bool→Option Bool
 |some d,w=>wantV (T.get d) w
 |none,_=>none
theorem WE(T:Tr Value)(d:Tmp)(w:Bool):guardV T (some d) w=wantV (T.get d) w:=wE rfl rfl
theorem N6(T:Tr Value)(all:List Oper)(d:Option Tmp)(o:Op)(t:TypeId)(p:String)(a:Array Edge)(j:Nat)(w:Bool):wantedA T all ⟨d,o,t,p,a,some (j,w)⟩=guardV T ((all[j]?).bind (·.dst)) w:=by
 simp only[wantedA]
 cases h:(all[j]?).bind (·.dst)with
 |none=>rfl
 |some d=>
  simp only[guardV,wantV]
  rfl
theorem WG(b w:Bool):wantV (some (.bool b)) w=some (b==w):=wE rfl rfl
theorem WH(w:Bool):wantV (some undef) w=some false:=wE rfl rfl
theorem fO{tk:Tok}{T:Tr Value}{o:Op}{H:Heap}{K:Tok→Value→Heap→Prop}(h:∀ call,exOp E call T {dst:=none,op:=o,type:=0,pos:=default,after:= #[],guard:=none} H=exOp E (fun _ _ _=>none) T {dst:=none,op:=o,type:=0,pos:=default,after:= #[],guard:=none} H):OP tk E T o H K=resP .go (exOp E (fun _ _ _=>none) T {dst:=none,op:=o,type:=0,pos:=default,after:= #[],guard:=none} H) K:=by
 unfold OP resP
 simp only[h,eq_iff_iff]
 exact⟨fun⟨_,h⟩=>h,fun h=>⟨0,h⟩⟩
variable{T:Tr Value}{H:Heap}{K:Tok→Value→Heap→Prop}
theorem WI(x:Operand):OP .go E T (.move x) H K=optP .go (ev T x) fun t v=>K t v H:=by
 rw[fO fun _=>rfl];simp only[exOp,fb,fP,optP]
theorem WJ(x:Operand):OP .go E T (.assign x) H K=optP .go (ev T x) fun t v=>K t v H:=by
 rw[fO fun _=>rfl];simp only[exOp,fb,fP,optP]
theorem WK(c a b:Operand):OP .go E T (.pick c a b) H K=optP .go (ev T c) fun t c=>asBoolP c (fun t=>optP t (ev T a) fun t v=>K t v H) (fun t=>optP t (ev T b) fun t v=>K t v H):=by
 rw[fO fun _=>rfl];simp only[exOp,fb,optP]
 congr 1
 funext v
 congr 1
 cases v with
 |bool v=>cases v<;>simp only[asBoolP,yM,HR,fb,fP,optP]
 |_=>simp[asBoolP,resP]
theorem WL(ty:TypeId):OP .go E T (.alloc ty) H K=optP .go ((E.ty.get ty).bind (·.zero)) fun t z=>K t (ptr H.next 0) (H.newRow (cg z)):=by
 rw[fO fun _=>rfl];simp only[exOp,fb,fP,HS];simp only[optP,fb,fP]
theorem WM(ty:TypeId)(x:Operand):OP .go E T (.box ty x) H K=optP .go (ev T x) fun t v=>K t (ptr H.next 0) (H.newRow (cg v)):=by
 rw[fO fun _=>rfl];simp only[exOp,fb,fP,optP]
theorem WN(ty:TypeId)(ps:Array (Nat×Operand)):OP .go E T (.build ty ps) H K=optP .go (gD E T ty ps.toList) fun t v=>K t v H:=by
 rw[fO fun _=>rfl];simp only[exOp,fb,fP,optP]
theorem WO(ty:TypeId)(x:Operand):OP .go E T (.load ty x) H K=optP .go (ev T x) fun t a=>optP t (loadV E H ty a) fun t v=>K t v H:=by
 rw[fO fun _=>rfl];simp only[exOp,fb,fP,optP]
theorem WQ(ty:TypeId)(x y:Operand):OP .go E T (.store ty x y) H K=optP .go (ev T x) fun t a=>optP t (ev T y) fun t v=>optP t (tI E H ty a v) fun t H'=>K t undef H':=by
 rw[fO fun _=>rfl];simp only[exOp,fb,fP,optP]
theorem WR(op:BinOp)(ty t':TypeId)(x y:Operand):OP .go E T (.binOp op ty x y t') H K=optP .go (ev T x) fun t a=>optP t (ev T y) fun t b=>optP t (binV E op ty x y a b) fun t v=>K t v H:=by
 rw[fO fun _=>rfl];simp only[exOp,fb,fP,optP]
theorem WS(op:UnOp)(ty:TypeId)(x:Operand):OP .go E T (.unOp op ty x) H K=optP .go (ev T x) fun t a=>optP t (unV op a) fun t v=>K t v H:=by
 rw[fO fun _=>rfl];simp only[exOp,fb,fP,optP]
theorem WT(s d:TypeId)(x:Operand):OP .go E T (.convert s d x) H K=optP .go (ev T x) fun t a=>optP t (qu E H s d a) fun t v=>K t v H:=by
 rw[fO fun _=>rfl];simp only[exOp,fb,fP,optP]
theorem WU(ty:TypeId)(x:Operand)(lo hi mx:Option Operand):OP .go E T (.slice ty x lo hi mx) H K=optP .go (ev T x) fun t x=>optP t (evO T lo) fun t lo=>optP t (evO T hi) fun t hi=>optP t (evO T mx) fun t mx=>optP t (sliceV E H ty x lo hi mx) fun t v=>K t v H:=by
 rw[fO fun _=>rfl];simp only[exOp,fb,fP,optP]
theorem WV(ty:TypeId)(x:Operand)(f:Nat):OP .go E T (.fieldAddr ty x f) H K=optP .go (ev T x) fun t x=>optP t (fieldAddrV E ty x f) fun t v=>K t v H:=by
 rw[fO fun _=>rfl];simp only[exOp,fb,fP,optP]
theorem WW(ty:TypeId)(x i:Operand):OP .go E T (.indexAddr ty x i) H K=optP .go (ev T x) fun t x=>optP t (ev T i) fun t i=>optP t (indexAddrV E ty x i) fun t v=>K t v H:=by
 rw[fO fun _=>rfl];simp only[exOp,fb,fP,optP]
theorem WX(ty:TypeId)(x i:Operand):OP .go E T (.index ty x i) H K=optP .go (ev T x) fun t x=>optP t (ev T i) fun t i=>optP t (indexV E ty x i) fun t v=>K t v H:=by
 rw[fO fun _=>rfl];simp only[exOp,fb,fP,optP]
theorem WY(ty:TypeId)(l c:Operand):OP .go E T (.makeSlice ty l c) H K=optP .go (ev T l) fun t l=>optP t (ev T c) fun t c=>resP t (makeSliceV E H ty l c) K:=by
 rw[fO fun _=>rfl];simp only[exOp,fb,optP]
def tupV:Value→Nat→Option Value
 | .tuple vs,ix=>vs.toList[ix]?
 |_,_=>none
theorem WZ(vs:Array Value)(ix:Nat):tupV (.tuple vs) ix=vs.toList[ix]? :=wE rfl rfl
theorem W0(x:Operand)(ix:Nat):OP .go E T (.extract x ix) H K=optP .go (ev T x) fun t v=>optP t (tupV v ix) fun t v=>K t v H:=by
 rw[fO fun _=>rfl];simp only[exOp,fb,optP]
 congr 1
 funext v
 congr 1
 cases v<;>simp only[tupV,fb,fP,optP]<;>simp[resP]
theorem Eg(g:FuncId)(first captured:Array Operand):OP .go E T (.makeFunc (.func g) first captured) H K=optP .go (evs T first.toList) fun t fs=>optP t (evs T captured.toList) fun t cs=>K t (.func (.func g) fs.toArray cs.toArray) H:=by
 rw[fO fun _=>rfl];simp only[exOp,fb,fP,optP]
def Bm(E:Env)(H:Heap)(ty:TypeId)(x:Value):Option AObj:=(E.ty.get ty).bind fun i=>rangeO H i.desc x
theorem W1(ty:TypeId)(x:Operand):OP .go E T (.range ty x) H K=optP .go (ev T x) fun t v=>optP t (Bm E H ty v) fun t o=>K t (ptr H.next 0) (H.add o):=by
 have e:∀ v,((E.ty.get ty).bind fun i=>(rangeO H i.desc v).bind fun o=>some (ptr H.next 0,H.add o))=(Bm E H ty v).bind fun o=>some (ptr H.next 0,H.add o):=fun v=>by
  unfold Bm
  cases E.ty.get ty<;>rfl
 rw[fO fun _=>rfl];simp only[exOp,e,fb,fP,optP]
theorem W2(b:Builtin)(as:Array Operand)(ts:Array TypeId):OP .go E T (.call {callee:= .builtin b,args:=as,argTypes:=ts}) H K=optP .go (evs T as.toList) fun t vs=>resP t (builtinV E H b ts.toList vs) K:=by
 rw[fO fun _=>rfl];simp only[exOp,fb,optP]
theorem W3(f:Operand)(as:Array Operand)(ts:Array TypeId):OP .go E T (.call {callee:= .value f,args:=as,argTypes:=ts}) H K=optP .go (evs T as.toList) fun t vs=>optP t (ev T f) fun t fv=>af E fv vs H (K .go):=by
 unfold OP af optP
 simp only[exOp,we,eq_iff_iff]
 constructor
 ·rintro⟨n,v,H',⟨as,h1,fv,h2,h3⟩,hk⟩
  exact⟨as,h1,fv,h2,n,v,H',h3,hk⟩
 ·rintro⟨as,h1,fv,h2,n,v,H',h3,hk⟩
  exact⟨n,v,H',⟨as,h1,fv,h2,h3⟩,hk⟩
theorem builtin_max(ts:List TypeId)(k k':IntKind)(a b:Int):builtinV E H .max ts [.int k a,.int k' b]=some (.int k (if a<b then b else a),H):=by
 have:(bif mI a b then b else a)=if a<b then b else a:=by
  rw[pE];by_cases h:a<b<;>simp[h]
 cases ts<;>simp only[builtinV,x6,wo,this]
theorem Eh:evs T []=some []:=wE rfl rfl
theorem Ei(x:Operand)(l:List Operand):evs T (x::l)=(ev T x).bind fun v=>(evs T l).bind fun vs=>some (v::vs):=wE rfl rfl
theorem qM(k:IntKind)(n:Int):gC k n=some (.int k (k.wrap n)):=by simp only[gC,rL,NB]
theorem mW{op:BinOp}(t:TypeId)(x y:Operand)(k k':IntKind)(a b:Int)(h1:(match op with| .shl| .shr=>false|_=>true)=true)(h2:sameKind k k'=true):binV E op t x y (.int k a) (.int k' b)=intOp op k a b:=by
 cases op<;>simp_all[binV]
theorem lQ(k:IntKind):sameKind k k=true:=by cases k<;>rfl
theorem W4(t:TypeId)(x y:Operand)(k:IntKind)(a b:Int):binV E .add t x y (.int k a) (.int k b)=intOp .add k a b:=mW t x y k k a b rfl (lQ k)
theorem W5(t:TypeId)(x y:Operand)(k:IntKind)(a b:Int):binV E .sub t x y (.int k a) (.int k b)=intOp .sub k a b:=mW t x y k k a b rfl (lQ k)
theorem W6(t:TypeId)(x y:Operand)(k:IntKind)(a b:Int):binV E .mul t x y (.int k a) (.int k b)=intOp .mul k a b:=mW t x y k k a b rfl (lQ k)
theorem W7(t:TypeId)(x y:Operand)(k:IntKind)(a b:Int):binV E .quo t x y (.int k a) (.int k b)=intOp .quo k a b:=mW t x y k k a b rfl (lQ k)
theorem W8(t:TypeId)(x y:Operand)(k:IntKind)(a b:Int):binV E .rem t x y (.int k a) (.int k b)=intOp .rem k a b:=mW t x y k k a b rfl (lQ k)
theorem W9(t:TypeId)(x y:Operand)(k:IntKind)(a b:Int):binV E .and t x y (.int k a) (.int k b)=intOp .and k a b:=mW t x y k k a b rfl (lQ k)
theorem Xa(t:TypeId)(x y:Operand)(k:IntKind)(a b:Int):binV E .or t x y (.int k a) (.int k b)=intOp .or k a b:=mW t x y k k a b rfl (lQ k)
theorem Xb(t:TypeId)(x y:Operand)(k:IntKind)(a b:Int):binV E .andNot t x y (.int k a) (.int k b)=intOp .andNot k a b:=mW t x y k k a b rfl (lQ k)
theorem Xd(t:TypeId)(x y:Operand)(k:IntKind)(a b:Int):binV E .eql t x y (.int k a) (.int k b)=intOp .eql k a b:=mW t x y k k a b rfl (lQ k)
theorem Xe(t:TypeId)(x y:Operand)(k:IntKind)(a b:Int):binV E .neq t x y (.int k a) (.int k b)=intOp .neq k a b:=mW t x y k k a b rfl (lQ k)
theorem Xf(t:TypeId)(x y:Operand)(k:IntKind)(a b:Int):binV E .lss t x y (.int k a) (.int k b)=intOp .lss k a b:=mW t x y k k a b rfl (lQ k)
theorem Xg(t:TypeId)(x y:Operand)(k:IntKind)(a b:Int):binV E .leq t x y (.int k a) (.int k b)=intOp .leq k a b:=mW t x y k k a b rfl (lQ k)
theorem Xh(t:TypeId)(x y:Operand)(k:IntKind)(a b:Int):binV E .gtr t x y (.int k a) (.int k b)=intOp .gtr k a b:=mW t x y k k a b rfl (lQ k)
theorem Xi(t:TypeId)(x y:Operand)(k:IntKind)(a b:Int):binV E .geq t x y (.int k a) (.int k b)=intOp .geq k a b:=mW t x y k k a b rfl (lQ k)
theorem Xj(t:TypeId)(x y:Operand)(a b:Array Value):binV E .neq t x y (.agg a) (.agg b)=(eqV E (99+1) t (.agg a) (.agg b)).bind fun r=>some (.bool (!r)):=wE rfl rfl
theorem Xk(b:Bool):unV .not (.bool b)=some (.bool (!b)):=wE rfl rfl
theorem Xl(k:IntKind)(n:Int):unV .neg (.int k n)=some (.int k (k.wrap (0-n))):=by simp only[unV,qM]
theorem Xm(t:TypeId)(x y:Operand)(k k':IntKind)(a b:Int):binV E .shl t x y (.int k a) (.int k' b)=shiftOp .shl k a b:=wE rfl rfl
theorem Xn(t:TypeId)(x y:Operand)(k k':IntKind)(a b:Int):binV E .shr t x y (.int k a) (.int k' b)=shiftOp .shr k a b:=wE rfl rfl
theorem shift_shl(k:IntKind)(a b:Int)(h:0≤b):shiftOp .shl k a b=some (.int k (k.wrap (a*2^(min b.toNat k.bits)))):=by
 have:mI b 0=false:=by rw[pE];simpa using h
 simp only[shiftOp,this,wS,qM]
theorem shift_shr(k:IntKind)(a b:Int)(h:0≤b):shiftOp .shr k a b=some (.int k (a.fdiv (2^(min b.toNat k.bits)))):=by
 have:mI b 0=false:=by rw[pE];simpa using h
 simp only[shiftOp,this,wS,rL]
theorem Xo(k:IntKind)(a b:Int):intOp .add k a b=some (.int k (k.wrap (a+b))):=qM ..
theorem Xp(k:IntKind)(a b:Int):intOp .sub k a b=some (.int k (k.wrap (a-b))):=qM ..
theorem Xq(k:IntKind)(a b:Int):intOp .mul k a b=some (.int k (k.wrap (a*b))):=qM ..
theorem Xr(k:IntKind)(a b:Int)(h:b≠0):intOp .rem k a b=some (.int k (a.tmod b)):=by
 have:eqI b 0=false:=by rw[gF];simpa using h
 simp only[intOp,this,wS,rL]
theorem Xs(k:IntKind)(a b:Int)(h:b≠0):intOp .quo k a b=some (.int k (k.wrap (a.tdiv b))):=by
 have:eqI b 0=false:=by rw[gF];simpa using h
 simp only[intOp,this,wS,qM]
theorem Xt(k:IntKind)(a b:Int):intOp .eql k a b=some (.bool (decide (a=b))):=by simp only[intOp,gF];rfl
theorem Xu(k:IntKind)(a b:Int):intOp .neq k a b=some (.bool (!decide (a=b))):=by simp only[intOp,gF];rfl
theorem Xv(k:IntKind)(a b:Int):intOp .lss k a b=some (.bool (decide (a<b))):=by simp only[intOp,pE]
theorem Xw(k:IntKind)(a b:Int):intOp .leq k a b=some (.bool (decide (a≤b))):=by simp only[intOp,vL]
theorem Xx(k:IntKind)(a b:Int):intOp .gtr k a b=some (.bool (decide (b<a))):=by simp only[intOp,pE]
theorem Xy(k:IntKind)(a b:Int):intOp .geq k a b=some (.bool (decide (b≤a))):=by simp only[intOp,vL]
theorem az(c:List Value):(H.newRow c).next=H.next+1:=iR H _
theorem aE(c:List Value):(H.newRow c).lo=H.lo:=vn H _
theorem aN(c:List Value)(r:Nat):(H.newRow c).objs.get r=bif r==H.next then some (.row c none true)else H.objs.get r:=by
 simp only[Heap.newRow,Heap.add,eU,Tr.force_eq]
 show(if r=H.next then some _ else H.objs r)=_
 by_cases h:r=H.next
 ·simp[h]
 ·have h':(r==H.next)=false:=by simpa using h
  rw[wI h,h'];rfl
def dh(E:Env)(t:TypeId):Option (Option Nat):=(E.ty.get t).bind fun i=>some (bif i.agg then some i.size else none)
def rowLoad(a:Option Nat)(o:Nat):AObj→Option Value
 | .row cells _ _=>match a with
   |none=>cells[o]?
   |some n=>(cut cells o n).bind fun l=>some (.agg l.toArray)
 |_=>none
theorem Xz(t:TypeId)(r o:Nat):loadV E H t (ptr r o)=(H.objs.get r).bind fun ob=>(dh E t).bind fun a=>rowLoad a o ob:=by
 simp only[loadV,ptr]
 cases H.objs.get r with
 |none=>rfl
 |some ob=>
  simp only[wo,dh]
  cases E.ty.get t with
  |none=>cases ob<;>rfl
  |some i=>cases ob<;>simp only[wo,rowLoad]<;>cases i.agg<;>rfl
theorem du(l:List Value)(o n:Nat):cut l o n=if o+n≤l.length then some ((l.drop o).take n)else none:=by
 unfold cut
 by_cases h:o+n≤l.length
 ·rw[wF h,wP h];rfl
 ·rw[wI h]
  have:Nat.ble (o+n) l.length=false:=by rw[waK];intro hh;exact h (wan hh)
  rw[this];rfl
theorem XA(cells:List Value)(g:Option (Nat×Nat))(t:Bool)(o:Nat):rowLoad none o (.row cells g t)=cells[o]? :=wE rfl rfl
theorem XB(cells:List Value)(g:Option (Nat×Nat))(t:Bool)(o n:Nat):rowLoad (some n) o (.row cells g t)=(cut cells o n).bind fun l=>some (.agg l.toArray):=wE rfl rfl
theorem XC(a:Array Value):cg (.agg a)=a.toList:=wE rfl rfl
theorem XD(k:IntKind)(n:Int):cg (.int k n)=[.int k n]:=wE rfl rfl
theorem XE(b:Bool):cg (.bool b)=[.bool b]:=wE rfl rfl
theorem XF(a:Option Addr)(l c:Nat):cg (.slice a l c)=[.slice a l c]:=wE rfl rfl
variable{id:Nat}{mk:List Nat}{ro:Option Nat}{Q:Tok→Ex→Tr Value→List Nat→Heap→Prop}{all:List Oper}{k:Tok→Tr Value→Prop}
theorem wp_skip{p:Pf (Code.skip)}:wp .go E sz .skip p T mk ro H Q=Q .go .normal T mk H:=wE rfl rfl
theorem wp_region(ops:Array Oper){p:Pf (Code.region id ops false)}:wp .go E sz (.region id ops false) p T mk ro H Q=wpOps .go E ops.toList pf sz ops.toList pf T H fun t T' H'=>Q t .normal T' mk H':=wE rfl rfl
theorem XG(ops:Array Oper){p:Pf (Code.region id ops true)}:wp .go E sz (.region id ops true) p T mk ro H Q=gi E sz (.region id ops true) T mk ro H (Q .go):=wE rfl rfl
theorem XH(a b c:Code){p:Pf (Code.seq (Code.seq a b) c)}:wp .go E sz (.seq (.seq a b) c) p T mk ro H Q=wp .go E sz (.seq a (.seq b c)) pf T mk ro H Q:=by
 show wp .go E sz a pf T mk ro H _=wp .go E sz a pf T mk ro H _
 congr 1
 funext t ex T' br H'
 cases ex<;>rfl
theorem XI(ops:Array Oper)(d:Bool)(b:Code){p:Pf (Code.seq (Code.region id ops d) b)}:wp .go E sz (.seq (.region id ops d) b) p T mk ro H Q=wp .go E sz (.region id ops d) pf T mk ro H fun t ex T' br H'=>sg t ex (fun t=>wp t E sz b pf T' br ro H' Q) fun t e=>Q t e T' br H':=wE rfl rfl
theorem XJ(x:Operand)(y z:Code)(b:Code){p:Pf (Code.seq (Code.cond x y z) b)}:wp .go E sz (.seq (.cond x y z) b) p T mk ro H Q=wp .go E sz (.cond x y z) pf T mk ro H fun t ex T' br H'=>sg t ex (fun t=>wp t E sz b pf T' br ro H' Q) fun t e=>Q t e T' br H':=wE rfl rfl
theorem XK(y:Code)(b:Code){p:Pf (Code.seq (Code.block id y) b)}:wp .go E sz (.seq (.block id y) b) p T mk ro H Q=wp .go E sz (.block id y) pf T mk ro H fun t ex T' br H'=>sg t ex (fun t=>wp t E sz b pf T' br ro H' Q) fun t e=>Q t e T' br H':=wE rfl rfl
theorem wp_cond(x:Operand)(a b:Code){p:Pf (Code.cond x a b)}:wp .go E sz (.cond x a b) p T mk ro H Q=optP .go (ev T x) fun t v=>asBoolP v (fun t=>wp t E sz a pf T mk ro H Q) (fun t=>wp t E sz b pf T mk ro H Q):=wE rfl rfl
theorem wp_block(a:Code){p:Pf (Code.block id a)}:wp .go E sz (.block id a) p T mk ro H Q=wp .go E sz a pf T mk ro H fun t ex T' br H'=>exP t id ex (fun t=>Q t .normal T' br H') fun t e=>Q t e T' br H':=wE rfl rfl
theorem wp_exit{p:Pf (Code.exit id)}:wp .go E sz (.exit id) p T mk ro H Q=Q .go (.exit id) T mk H:=wE rfl rfl
theorem wp_ret{p:Pf (Code.ret)}:wp .go E sz .ret p T mk ro H Q=Q .go .ret T mk H:=wE rfl rfl
theorem XL(c:Code){p:Pf (Code.loop c)}:wp .go E sz (.loop c) p T mk ro H Q=gi E sz (.loop c) T mk ro H (Q .go):=wE rfl rfl
theorem XM(f:Operand)(ps:Array Tmp)(a b:Code){p:Pf (Code.rangeFunc f ps a b)}:wp .go E sz (.rangeFunc f ps a b) p T mk ro H Q=gi E sz (.rangeFunc f ps a b) T mk ro H (Q .go):=wE rfl rfl
theorem XN{K:Tok→Tr Value→Heap→Prop}{p1:Pf all}{p2:Pf ([]:List Oper)}:wpOps .go E all p1 sz [] p2 T H K=K .go T H:=wE rfl rfl
theorem wpOps_cons{K:Tok→Tr Value→Heap→Prop}(d:Option Tmp)(o:Op)(ty:TypeId)(p:String)(a:Array Edge)(rest:List Oper){p1:Pf all}{p2:Pf (⟨d,o,ty,p,a,none⟩::rest)}:wpOps .go E all p1 sz (⟨d,o,ty,p,a,none⟩::rest) p2 T H K=OP .go E T o H fun t v H'=>jg t sz T d v fun t T'=>wpOps t E all pf sz rest pf T' H' K:=by
 simp only[wpOps,HT,Bl,yM]
theorem XO{K:Tok→Tr Value→Heap→Prop}(d:Option Tmp)(o:Op)(ty:TypeId)(p:String)(a:Array Edge)(j:Nat)(w:Bool)(rest:List Oper){p1:Pf all}{p2:Pf (⟨d,o,ty,p,a,some (j,w)⟩::rest)}:wpOps .go E all p1 sz (⟨d,o,ty,p,a,some (j,w)⟩::rest) p2 T H K=
  optP .go (guardV T ((all[j]?).bind (·.dst)) w) fun _ b=>boolP b (fun t=>OP t E T o H fun t v H'=>jg t sz T d v fun t T'=>wpOps t E all pf sz rest pf T' H' K) (fun t=>jg t sz T d undef fun t T'=>wpOps t E all pf sz rest pf T' H K):=by
 simp only[wpOps,N6]
theorem XP(d:Tmp)(v:Value):jg .go sz T (some d) v k=(d<sz∧k .go (T.set d v)):=wE rfl rfl
theorem XQ(v:Value):jg .go sz T none v k=k .go T:=wE rfl rfl
theorem XR(P:Tok→Prop)(Q:Tok→Ex→Prop):sg .go .normal P Q=P .go:=wE rfl rfl
theorem XS(P:Tok→Prop)(Q:Tok→Ex→Prop):sg .go .ret P Q=Q .go .ret:=wE rfl rfl
theorem XT(i:Nat)(P:Tok→Prop)(Q:Tok→Ex→Prop):sg .go (.exit i) P Q=Q .go (.exit i):=wE rfl rfl
theorem XU(P:Tok→Prop)(Q:Tok→Ex→Prop):exP .go id .normal P Q=Q .go .normal:=wE rfl rfl
theorem XV(P:Tok→Prop)(Q:Tok→Ex→Prop):exP .go id .ret P Q=Q .go .ret:=wE rfl rfl
theorem XW(i:Nat)(P:Tok→Prop)(Q:Tok→Ex→Prop):exP .go id (.exit i) P Q=bif i==id then P .go else Q .go (.exit i):=by
 by_cases h:i=id<;>simp[exP,h]
theorem XX(P:Tok→Prop):yH .go .normal P=P .go:=wE rfl rfl
theorem XY(P:Tok→Prop):yH .go .ret P=P .go:=wE rfl rfl
theorem XZ:resultsV E H T []=some []:=wE rfl rfl
theorem results_tmp(t:Tmp)(l:List ResultVar):resultsV E H T (.tmp t::l)=(T.get t).bind fun v=>(resultsV E H T l).bind fun r=>some (v::r):=wE rfl rfl
theorem X0(a:Tmp)(t:TypeId)(l:List ResultVar):resultsV E H T (.cell a t::l)=(T.get a).bind fun a=>(loadV E H t a).bind fun v=>(resultsV E H T l).bind fun r=>some (v::r):=wE rfl rfl
theorem Ya(v:Value):jA [v]=v:=wE rfl rfl
theorem Yb:jA []= .tuple #[]:=wE rfl rfl
theorem Yc(a b:Value):jA [a,b]= .tuple #[a,b]:=wE rfl rfl
theorem Ye(a b c:Value):jA [a,b,c]= .tuple #[a,b,c]:=wE rfl rfl
def Heap.bU(H:Heap)(n:Nat):Heap:={objs:=H.objs,grps:=H.grps,next:=H.next,lo:=n}
def wpDraw(_:Tok)(E:Env)(all:List Oper)(_:Pf all)(sz:Nat):(l:List Oper)→Pf l→List Info→Tr Value→Heap→(Tok→Tr Value→Heap→Prop)→Prop
 |[],_,_,T,H,K=>K .go T H
 |o::rest,_,i::a9,T,H,K=>
  optP .go (wantedA T all o) fun _ b=>boolP b (fun t=>storeApart E T H o.op i.apart=true∧OP t E T o.op (bif i.grow then H.bU H.next else H) fun t v H'=>keepOk E T H' i.cJ=true∧jg t sz T o.dst v fun t T'=>wpDraw t E all pf sz rest pf a9 T' (H'.bU H.lo) K)
   (fun t=>jg t sz T o.dst undef fun t T'=>wpDraw t E all pf sz rest pf a9 T' H K)
 |_::_,_,[],_,_,_=>False
theorem HU{all:List Oper}:∀ {t:Tok} {l:List Oper} {p1:Pf all} {p2:Pf l} {a9:List Info} {T:Tr Value} {H:Heap} {K:Tok→Tr Value→Heap→Prop},wpDraw t E all p1 sz l p2 a9 T H K→∃ n T' H',exDraw E (fQ E (run E n)) all sz l a9 T H=some (T',H')∧K .go T' H'
 |_,[],_,_,_,T,H,K,h=>⟨0,T,H,by simp[exDraw],by simpa[wpDraw]using h⟩
 |_,o::l,_,_,[],T,H,K,h=>by simp[wpDraw]at h
 |_,o::l,_,_,i::a9,T,H,K,h=>by
  obtain⟨b,hb,hk⟩:=h
  have put:∀ {v:Value} {H1:Heap},(jg .go sz T o.dst v fun t T'=>wpDraw t E all pf sz l pf a9 T' H1 K)→∃ T1,gQ sz T o.dst v=some T1∧∃ n T' H',exDraw E (fQ E (run E n)) all sz l a9 T1 H1=some (T',H')∧K .go T' H':=by
   intro v H1 hp
   unfold jg at hp
   unfold gQ
   cases hd:o.dst with
   |none=>rw[hd]at hp;exact⟨T,rfl,HU hp⟩
   |some d=>
    rw[hd]at hp
    have hb:Nat.blt d sz=true:=wP hp.1
    exact⟨T.set d v,by simp[hb,Tr.force_eq],HU hp.2⟩
  cases b with
  |true=>
   obtain⟨dt,n1,v,H1,h1,HN,h2⟩:=hk.1 rfl
   obtain⟨T1,h3,n2,T',H',h4,h5⟩:=put h2
   refine⟨max n1 n2,T',H',?_,h5⟩
   have e1:exOp E (fQ E (run E (max n1 n2))) T o {objs:=H.objs,grps:=H.grps,next:=H.next,lo:=bif i.grow then H.next else H.lo}=some (v,H1):=by
    rw[N2 (o:=o) (o':={dst:=none,op:=o.op,type:=0,pos:=default,after:= #[],guard:=none}) rfl]
    have:(bif i.grow then H.bU H.next else H)={objs:=H.objs,grps:=H.grps,next:=H.next,lo:=bif i.grow then H.next else H.lo}:=by cases i.grow<;>rfl
    rw[←this]
    exact DP (vB (kg (wbP ..))) h1
   simp only[exDraw,hb,dt,wai,e1,wo,HN,h3,ub]
   exact DQ (vB (kg (wbE ..))) h4
  |false=>
   obtain⟨T1,h3,n2,T',H',h4,h5⟩:=put (hk.2 rfl)
   refine⟨n2,T',H',?_,h5⟩
   simp only[exDraw,hb,wo,h3]
   exact h4
def freeIx(b:List Nat)(i:Nat):List Oper→Nat→List Nat
 |[],_=>[]
 |p::l,n=>bif Nat.beq n i||ordered b i n|| !isLoad (kindOf p.op)then freeIx b i l (n+1)else n::freeIx b i l (n+1)
def apartOf(all:List Oper):List Nat→List Op
 |[]=>[]
 |k::l=>match all[k]? with
  |some o=>o.op::apartOf all l
  |none=>apartOf all l
abbrev Ix:=Bool×List Nat×List (TypeId×Tmp×Tmp)
def Bn(ops:List Oper)(b:List Nat)(n i:Nat):List Oper→Nat→List Nat
 |[],_=>[]
 |p::l,k=>bif Nat.blt k i&&uQ n k&&oF ops b n k p&& !ordered b k i then k::Bn ops b n i l (k+1)else Bn ops b n i l (k+1)
def ixAt(ops:List Oper)(b:List Nat)(n i:Nat)(o:Oper):Option Ix:=
 bif edgesOk n i o.after.toList&&tmpsOk (maskT ((match o.dst with|some d=>[d]|none=>[])++looksOf ops o)) b i ops 0 then
  match kindOf o.op with
  | .store=>bif effOk true b i ops 0 then some (false,freeIx b i ops 0,[])else none
  | .call=>bif effOk false b i ops 0 then(match Gd ops b n i with
    |some ks=>some (false,[],ks)
    |none=>bif oF ops b n i o then some (false,freeIx b i ops 0,[])else some (!(freeIx b i ops 0).isEmpty,[],[]))else none
  | .load=>some (false,Bn ops b n i ops 0,[])
  |_=>some (false,[],[])
 else none
def Bo(ops:List Oper)(b:List Nat)(n:Nat):List Oper→Nat→Option (List Ix)
 |[],_=>some []
 |o::l,i=>(ixAt ops b n i o).bind fun x=>(Bo ops b n l (i+1)).bind fun r=>some (x::r)
def Ej(ops:Array Oper):Option (List Ix):=
 bif gcOk ops.toList ops.size 20 0 then Bo ops.toList (Region.before ops).toList ops.size ops.toList 0 else none
def oi(all:List Oper)(p:Ix):Info:=⟨p.1,apartOf all p.2.1,p.2.2⟩
theorem Bq{b:List Nat}{i:Nat}{all:List Oper}:∀ (l:List Oper) (n:Nat),all.drop n=l→nL b i l n=apartOf all (freeIx b i l n)
 |[],_,_=>rfl
 |p::l,n,h=>by
  have hn:all[n]? =some p:=by
   have:=congrArg (fun l=>l[0]?) h
   simpa using this
  have hl:all.drop (n+1)=l:=by rw[←wbZ,h];rfl
  simp only[nL,freeIx]
  cases(Nat.beq n i||ordered b i n|| !isLoad (kindOf p.op))with
  |true=>exact Bq l (n+1) hl
  |false=>
   simp only[wS,apartOf,hn]
   rw[Bq l (n+1) hl]
theorem HV{all:List Oper}(ops:List Oper)(b:List Nat)(n i:Nat):∀ (l:List Oper) (k:Nat),all.drop k=l→rN ops b n i l k=apartOf all (Bn ops b n i l k)
 |[],_,_=>rfl
 |p::l,k,h=>by
  have hn:all[k]? =some p:=by
   have:=congrArg (fun l=>l[0]?) h
   simpa using this
  have hl:all.drop (k+1)=l:=by rw[←wbZ,h];rfl
  simp only[rN,Bn]
  cases(Nat.blt k i&&uQ n k&&oF ops b n k p&& !ordered b k i)with
  |false=>exact HV ops b n i l (k+1) hl
  |true=>
   simp only[wai,apartOf,hn]
   rw[HV ops b n i l (k+1) hl]
theorem Yf{all:List Oper}:∀ (l:List Nat),(∀k∈l,(all[k]?).isSome=true)→(apartOf all l).isEmpty=l.isEmpty
 |[],_=>rfl
 |k::l,h=>by
  obtain⟨o,ho⟩:=wci.1 (h k (wW ..))
  simp[apartOf,ho]
theorem HW{b:List Nat}{i:Nat}{all:List Oper}:∀ (l:List Oper) (n:Nat),all.drop n=l→∀ k∈freeIx b i l n,(all[k]?).isSome=true
 |[],_,_,k,hk=>by simp[freeIx]at hk
 |p::l,n,h,k,hk=>by
  have hn:all[n]? =some p:=by
   have:=congrArg (fun l=>l[0]?) h
   simpa using this
  have hl:all.drop (n+1)=l:=by rw[←wbZ,h];rfl
  simp only[freeIx]at hk
  cases hc:(Nat.beq n i||ordered b i n|| !isLoad (kindOf p.op))with
  |true=>rw[hc]at hk;exact HW l (n+1) hl k hk
  |false=>
   rw[hc]at hk
   rcases wad.1 hk with rfl|hk
   ·rw[hn];rfl
   ·exact HW l (n+1) hl k hk
theorem Yg(ops:List Oper)(b:List Nat)(n i:Nat)(o:Oper):infoAt ops b n i o=(ixAt ops b n i o).map (oi ops):=by
 unfold infoAt ixAt
 cases(edgesOk n i o.after.toList&&tmpsOk (maskT ((match o.dst with|some d=>[d]|none=>[])++looksOf ops o)) b i ops 0)with
 |false=>rfl
 |true=>
  simp only[wai]
  cases kindOf o.op with
  |store=>
   simp only
   cases effOk true b i ops 0<;>simp only[wai,wS,waE,wcH,oi]
   rw[Bq (all:=ops) ops 0 rfl]
  |call=>
   simp only
   cases effOk false b i ops 0<;>simp only[wai,wS,wcH]
   cases Gd ops b n i<;>simp only[waE,oi,apartOf]
   cases oF ops b n i o<;>simp only[wai,wS,waE,oi,apartOf]
   ·rw[Bq (all:=ops) ops 0 rfl,Yf _ (HW ops 0 rfl)]
   ·rw[Bq (all:=ops) ops 0 rfl]
  |load=>simp only[waE,oi];rw[HV (all:=ops) ops b n i ops 0 rfl]
  |_=>rfl
theorem N7(ops:List Oper)(b:List Nat)(n:Nat):∀ (l:List Oper) (i:Nat),uR ops b n l i=(Bo ops b n l i).map (List.map (oi ops))
 |[],_=>rfl
 |o::l,i=>by
  simp only[uR,Bo,Yg,N7 ops b n l (i+1)]
  cases ixAt ops b n i o with
  |none=>rfl
  |some x=>
   simp only[waE,wo]
   cases Bo ops b n l (i+1)<;>rfl
theorem Yh(ops:Array Oper):x7 ops=(Ej ops).map (List.map (oi ops.toList)):=by
 unfold x7 Ej
 cases gcOk ops.toList ops.size 20 0 with
 |false=>rfl
 |true=>exact N7 ..
theorem gU{ops:Array Oper}{Q:Ex→Tr Value→List Nat→Heap→Prop}(ix:List Ix)(hi:Ej ops=some ix)(h:wpDraw .go E ops.toList pf sz ops.toList pf (ix.map (oi ops.toList)) T H fun _ T' H'=>Q .normal T' mk H'):gi E sz (.region id ops true) T mk ro H Q:=by
 obtain⟨n,T',H',h1,h2⟩:=HU h
 refine⟨n+1,.normal,T',mk,H',?_,h2⟩
 have l1:Maps.nM sz=true:=rfl
 have l2:Maps.nM H'.next=true:=rfl
 have dU:x7 ops=some (ix.map (oi ops.toList)):=by rw[Yh,hi];rfl
 simp only[run,runWith,rO,l1,wa7,wS,dU,wo,h1,l2,wai]
theorem Yi(all:List Oper):List.map (oi all) []=[]:=wE rfl rfl
theorem Yj(all:List Oper)(g:Bool)(ix:List Nat)(ks:List (TypeId×Tmp×Tmp))(l:List Ix):List.map (oi all) ((g,ix,ks)::l)=⟨g,apartOf all ix,ks⟩::List.map (oi all) l:=wE rfl rfl
theorem Yk(all:List Oper):apartOf all []=[]:=wE rfl rfl
theorem Yl(all:List Oper)(k:Nat)(l:List Nat):apartOf all (k::l)=match all[k]? with
  |some o=>o.op::apartOf all l
  |none=>apartOf all l:=wE rfl rfl
theorem Ym{K:Tok→Tr Value→Heap→Prop}(is:List Info){p1:Pf all}{p2:Pf ([]:List Oper)}:wpDraw .go E all p1 sz [] p2 is T H K=K .go T H:=by simp only[wpDraw]
theorem Yn{K:Tok→Tr Value→Heap→Prop}(d:Option Tmp)(o:Op)(ty:TypeId)(p:String)(a:Array Edge)(g:Bool)(ap:List Op)(is:List Info)(rest:List Oper){p1:Pf all}{p2:Pf (⟨d,o,ty,p,a,none⟩::rest)}:wpDraw .go E all p1 sz (⟨d,o,ty,p,a,none⟩::rest) p2 (⟨g,ap,[]⟩::is) T H K=
  (storeApart E T H o ap=true∧OP .go E T o (bif g then H.bU H.next else H) fun t v H'=>jg t sz T d v fun t T'=>wpDraw t E all pf sz rest pf is T' (H'.bU H.lo) K):=by
 simp only[wpDraw,keepOk,wbT,HT,Bl,yM]
theorem Yo{K:Tok→Tr Value→Heap→Prop}(d:Option Tmp)(o:Op)(ty:TypeId)(p:String)(a:Array Edge)(j:Nat)(w g:Bool)(ap:List Op)(is:List Info)(rest:List Oper){p1:Pf all}{p2:Pf (⟨d,o,ty,p,a,some (j,w)⟩::rest)}:wpDraw .go E all p1 sz (⟨d,o,ty,p,a,some (j,w)⟩::rest) p2 (⟨g,ap,[]⟩::is) T H K=
  optP .go (guardV T ((all[j]?).bind (·.dst)) w) fun _ b=>boolP b (fun t=>storeApart E T H o ap=true∧OP t E T o (bif g then H.bU H.next else H) fun t v H'=>jg t sz T d v fun t T'=>wpDraw t E all pf sz rest pf is T' (H'.bU H.lo) K)
   (fun t=>jg t sz T d undef fun t T'=>wpDraw t E all pf sz rest pf is T' H K):=by
 simp only[wpDraw,keepOk,wbT,N6]
theorem Yp{K:Tok→Tr Value→Heap→Prop}(d:Option Tmp)(o:Op)(ty:TypeId)(p:String)(a:Array Edge)(g:Bool)(ap:List Op)(k:TypeId×Tmp×Tmp)(ks:List (TypeId×Tmp×Tmp))(is:List Info)(rest:List Oper){p1:Pf all}{p2:Pf (⟨d,o,ty,p,a,none⟩::rest)}:wpDraw .go E all p1 sz (⟨d,o,ty,p,a,none⟩::rest) p2 (⟨g,ap,k::ks⟩::is) T H K=
  (storeApart E T H o ap=true∧OP .go E T o (bif g then H.bU H.next else H) fun t v H'=>keepOk E T H' (k::ks)=true∧jg t sz T d v fun t T'=>wpDraw t E all pf sz rest pf is T' (H'.bU H.lo) K):=by
 simp only[wpDraw,HT,Bl,yM]
theorem Yq{n:Nat}(h:H.lo=n):H.bU n=H:=by subst h;rfl
theorem KT(a b:Nat):(H.bU a).bU b=H.bU b:=wE rfl rfl
theorem aD(a:Nat):(H.bU a).next=H.next:=wE rfl rfl
theorem aH(a:Nat):(H.bU a).lo=a:=wE rfl rfl
theorem aL(a:Nat):(H.bU a).objs=H.objs:=wE rfl rfl
theorem CY(a:Nat):(H.bU a).grps=H.grps:=wE rfl rfl
theorem aQ(c:List Value)(a:Nat):(H.newRow c).bU a=(H.bU a).newRow c:=by
 simp only[Heap.newRow,Heap.add,eU,Tr.force_eq,Heap.bU]
theorem Yr(o:Op):storeApart E T H o []=true:=wE rfl rfl
end
def zeroOf(E:Env)(t:TypeId):Option Value:=(E.ty.get t).bind (·.zero)
theorem au{a b:Nat}(h:a≠b):(a==b)=false:=by simpa using h
theorem cr{a b:Nat}(h:a=b):(a==b)=true:=by simpa using h
section
variable{E:Env}{sz:Nat}{T:Tr Value}{H:Heap}
theorem N8(i:Int)(n:Nat):at? i n=if 0≤i∧i<n then some i.toNat else none:=by
 cases i with
 |ofNat i=>
  simp only[at?]
  by_cases h:i<n
  ·rw[show Nat.blt i n=true from wP h,wai,wF ⟨wco i,Int.ofNat_lt.2 h⟩];rfl
  ·rw[show Nat.blt i n=false from waK.2 fun hh=>h (wan hh),wS,wI (fun hh=>h (Int.ofNat_lt.1 hh.2))]
 |negSucc i=>simp only[at?];rw[wI (fun hh=>by have:=hh.1;simp at this)]
theorem to_eq(i:Int)(n:Nat):to? i n=if 0≤i∧i≤n then some i.toNat else none:=by
 cases i with
 |ofNat i=>
  simp only[to?]
  by_cases h:i≤n
  ·rw[wP h,wai,wF ⟨wco i,Int.ofNat_le.2 h⟩];rfl
  ·rw[show Nat.ble i n=false from waK.2 fun hh=>h (wan hh),wS,wI (fun hh=>h (Int.ofNat_le.1 hh.2))]
 |negSucc i=>simp only[to?];rw[wI (fun hh=>by have:=hh.1;simp at this)]
theorem bn{i n:Nat}(h:i<n):at? (i:Int) n=some i:=by
 rw[N8,wF ⟨wco i,Int.ofNat_lt.2 h⟩];rfl
theorem SY{i:Int}{n:Nat}(h0:0≤i)(h:i<n):at? i n=some i.toNat:=by rw[N8,wF ⟨h0,h⟩]
theorem named{α:Type}(x:α){P:Prop}(h:∀ y,y=x→P):P:=h x rfl
def Hid(p:Prop):Prop:=p
def Heap.setRow(H:Heap)(r:Nat)(cells:List Value):Heap:={objs:=H.objs.set r (.row cells none true),grps:=H.grps,next:=H.next,lo:=H.lo}
theorem ay(c:List Value)(r x:Nat):(H.setRow r c).objs.get x=bif x==r then some (.row c none true)else H.objs.get x:=by
 show(if x=r then some _ else H.objs x)=_
 by_cases h:x=r
 ·simp[h]
 ·have h':(x==r)=false:=by simpa using h
  rw[wI h,h'];rfl
theorem aF(c:List Value)(r:Nat):(H.setRow r c).next=H.next:=wE rfl rfl
theorem aB(c:List Value)(r:Nat):(H.setRow r c).lo=H.lo:=wE rfl rfl
theorem aO(c:List Value)(r:Nat):(H.setRow r c).grps=H.grps:=wE rfl rfl
theorem aP(c:List Value)(r a:Nat):(H.setRow r c).bU a=(H.bU a).setRow r c:=wE rfl rfl
theorem aM(c:List Value):(H.newRow c).grps=H.grps:=Av H _
def rowWrite(H:Heap)(r o:Nat)(new:List Value):Option AObj→Option Heap
 |some (.row cells none true)=>if H.lo≤r∧new.all isCell=true∧o+new.length≤cells.length then some (H.setRow r (over new o cells))else none
 |_=>none
theorem Ys{r o:Nat}{new cells:List Value}(hr:H.objs.get r=some (.row cells none true)):H.write r o new=rowWrite H r o new (some (.row cells none true)):=by
 simp only[rowWrite,Heap.write,hr,Tr.force_eq]
 by_cases h1:H.lo≤r
 ·by_cases h2:new.all isCell=true
  ·by_cases h3:o+new.length≤cells.length
   ·rw[wF ⟨h1,h2,h3⟩,wP h1,h2,wP h3];rfl
   ·rw[wI fun h=>h3 h.2.2,wP h1,h2,show Nat.ble (o+new.length) cells.length=false from waK.2 fun hh=>h3 (wan hh)];rfl
  ·rw[wI fun h=>h2 h.2.1,wP h1,waK.2 h2];rfl
 ·rw[wI fun h=>h1 h.1,show Nat.ble H.lo r=false from waK.2 fun hh=>h1 (wan hh)];rfl
def Heap.xZ(H:Heap)(r o:Nat)(new:List Value):Option Heap:=H.write r o new
def writeV(H:Heap)(r o:Nat)(new:List Value):Option AObj→Option Heap
 |some (.row cells none true)=>bif decide (H.lo≤r)&&new.all isCell&&decide (o+new.length≤cells.length)then some (H.setRow r (over new o cells))else none
 |some (.row _ (some _) true)=>H.xZ r o new
 |_=>none
theorem Yt(r o:Nat)(new:List Value):H.write r o new=writeV H r o new (H.objs.get r):=by
 cases h:H.objs.get r with
 |none=>
  simp only[writeV,Heap.write,h]
  exact wbB ..
 |some ob=>
  match ob,h with
  | .row cells none true,h=>
    rw[Ys h]
    simp only[writeV,rowWrite]
    by_cases h1:H.lo≤r<;>by_cases h2:new.all isCell=true<;>by_cases h3:o+new.length≤cells.length<;>simp[h1,h2,h3]
  | .row cells none false,h=>simp only[writeV,Heap.write,h];exact wbB ..
  | .row cells (some g) true,h=>rfl
  | .row cells (some g) false,h=>simp only[writeV,Heap.write,h];exact wbB ..
  | .map _,h=>simp only[writeV,Heap.write,h];exact wbB ..
  | .loop ..,h=>simp only[writeV,Heap.write,h];exact wbB ..
  | .defers,h=>simp only[writeV,Heap.write,h];exact wbB ..
  | .iter ..,h=>simp only[writeV,Heap.write,h];exact wbB ..
  | .po ..,h=>simp only[writeV,Heap.write,h];exact wbB ..
  | .lh ..,h=>simp only[writeV,Heap.write,h];exact wbB ..
  | .lJ ..,h=>simp only[writeV,Heap.write,h];exact wbB ..
theorem Yu(r o:Nat)(new cells:List Value):writeV H r o new (some (.row cells none true))=bif decide (H.lo≤r)&&new.all isCell&&decide (o+new.length≤cells.length)then some (H.setRow r (over new o cells))else none:=wE rfl rfl
theorem Yv{a b:Nat}(h:a≤b):decide (a≤b)=true:=by simpa using h
theorem Ek(k:IntKind)(n:Int):isCell (.int k n)=true:=wE rfl rfl
theorem Yw(b:Bool):isCell (.bool b)=true:=wE rfl rfl
theorem Yx(a:Option Addr)(l c:Nat):isCell (.slice a l c)=true:=wE rfl rfl
theorem Yy(r o:Nat):isCell (ptr r o)=true:=wE rfl rfl
theorem Yz{t r o:Nat}{v:Value}:tI E H t (ptr r o) v=(E.size t).bind fun n=>bif (cg v).length==n then H.write r o (cg v)else none:=by
 simp only[tI,ptr]
 congr 1;funext n
 have:Nat.beq (cg v).length n=((cg v).length==n):=by
  by_cases h:(cg v).length=n
  ·rw[h,wbc];simp
  ·rw[au h,waK];intro hh;exact h (wbw hh)
 rw[this]
theorem Nx(new l:List Value):over new 0 l=new++l.drop new.length:=wE rfl rfl
theorem Ny(new:List Value)(o:Nat)(x:Value)(l:List Value):over new (o+1) (x::l)=x::over new o l:=wE rfl rfl
theorem cw(a b:Nat):Nat.ble a b=decide (a≤b):=by
 by_cases h:a≤b
 ·rw[wP h];simp[h]
 ·rw[show Nat.ble a b=false from waK.2 fun hh=>h (wan hh)];simp[h]
theorem kV(a b:Nat):Nat.beq a b=decide (a=b):=by
 by_cases h:a=b
 ·rw[h,wbc];simp
 ·rw[show Nat.beq a b=false from waK.2 fun hh=>h (wbw hh)];simp[h]
def N9(o n:Nat):AObj→Option (List Value)
 | .row cells _ _=>cut cells o n
 |_=>none
theorem Bg(cells:List Value)(g:Option (Nat×Nat))(t:Bool)(o n:Nat):N9 o n (.row cells g t)=cut cells o n:=wE rfl rfl
theorem Bf(n r o l c:Nat):cellsOf H n (.slice (some ⟨r,o,none⟩) l c)=(H.objs.get r).bind (N9 o n):=by
 simp only[cellsOf]
 cases H.objs.get r with
 |none=>rfl
 |some ob=>cases ob<;>rfl
theorem Nz(n l c:Nat):cellsOf H n (.slice none l c)=if n=0 then some []else none:=by
 simp only[cellsOf,kV]
 by_cases h:n=0<;>simp[h]
def so(E:Env)(T:Tr Value)(H:Heap)(t:TypeId)(len:Nat)(parts:List (Nat×Operand)):Option (Value×Heap):=
 (E.ty.get t).bind fun i=>
  match i.desc with
  | .slice e=>(E.ty.get e).bind fun j=>j.zero.bind fun z=>
    bif !Nat.beq (cg z).length j.size|| !Nat.ble (len*j.size) 10000000||Nat.beq j.size 0 then none else
    (evParts T (fun k=>some (k*j.size,j.size)) parts).bind fun ps=>(fillV (df (cg z) len) ps).bind fun l=>
     some (.slice (some ⟨H.next,0,none⟩) len len,H.newRow l)
  |_=>none
theorem YD{K:Tok→Value→Heap→Prop}(ty:TypeId)(len:Nat)(ps:Array (Nat×Operand)):OP .go E T (.buildSlice ty len ps) H K=resP .go (so E T H ty len ps.toList) K:=by
 rw[fO fun _=>rfl];rfl
theorem YZ(pl:Nat→Option (Nat×Nat)):evParts T pl []=some []:=wE rfl rfl
theorem Y0(pl:Nat→Option (Nat×Nat))(i:Nat)(x:Operand)(l:List (Nat×Operand)):evParts T pl ((i,x)::l)=(pl i).bind fun p=>(ev T x).bind fun v=>(evParts T pl l).bind fun r=>some ((p.1,p.2,v)::r):=wE rfl rfl
theorem Y4(cells:List Value):fillV cells []=some cells:=wE rfl rfl
theorem Y5(cells:List Value)(off size:Nat)(v:Value)(rest:List (Nat×Nat×Value)):fillV cells ((off,size,v)::rest)=bif decide ((cg v).length=size)&&decide (off+size≤cells.length)then fillV (over (cg v) off cells) rest else none:=by
 simp only[fillV,ju,kV,cw]
theorem dW(z:List Value):df z 0=[]:=wE rfl rfl
theorem iG(z:List Value)(n:Nat):df z (n+1)=z++df z n:=wE rfl rfl
theorem Y6(tH:TypeId→Value→Value→Option Bool)(xs ys:List Value):eqFields E tH xs ys []=some true:=wE rfl rfl
def Oa:Bool→Option Bool→Option Bool
 |true,o=>o
 |false,_=>some false
theorem Y7(a b:Bool):Oa a (some b)=some (a&&b):=by cases a<;>rfl
theorem Y8(tH:TypeId→Value→Value→Option Bool)(xs ys:List Value)(o:Nat)(t:TypeId)(fs:List (Nat×TypeId)):eqFields E tH xs ys ((o,t)::fs)=
  (jC E t xs o).bind fun a=>(jC E t ys o).bind fun b=>(tH t a b).bind fun r=>Oa r (eqFields E tH xs ys fs):=by
 simp only[eqFields]
 congr 1;funext a;congr 1;funext b;congr 1;funext r
 cases r<;>rfl
theorem Y9{K:Tok→Value→Heap→Prop}(ty:TypeId):OP .go E T (.alloc ty) H K=optP .go (zeroOf E ty) fun t z=>K t (ptr H.next 0) (H.newRow (cg z)):=WL ty
def apT(H:Heap)(r o n:Nat)(v:Option Value):Option (Option Nat)→Bool
 |some a=>match v with
  |some (.pointer (some ⟨r',o',none⟩))=>bif r==r' then decide (o+n≤o')||decide (o'+a.getD 1≤o)else(H.objs.get r').isSome
  |_=>true
 |none=>true
def alone:Option AObj→Bool
 |some (.row _ none _)=>true
 |_=>false
def HX(E:Env)(T:Tr Value)(H:Heap)(n:Nat)(l:List Op):Option Value→Bool
 |some (.pointer (some ⟨r,o,none⟩))=>alone (H.objs.get r)&&apartFrom E T H r o n l
 |_=>false
theorem Za(r o n:Nat):apartFrom E T H r o n []=true:=wE rfl rfl
theorem Zb(a b:Nat):Nat.beq a b=(a==b):=by
 by_cases h:a=b
 ·rw[h,wbc];simp
 ·rw[au h,waK];intro hh;exact h (wbw hh)
theorem Zc(r o n:Nat)(ty:TypeId)(x:Operand)(l:List Op):apartFrom E T H r o n (.load ty x::l)=(apT H r o n (ev T x) (dh E ty)&&apartFrom E T H r o n l):=by
 simp only[apartFrom,footOf]
 congr 1
 cases ev T x with
 |none=>cases dh E ty<;>rfl
 |some v=>
  simp only[wo,dh]
  cases E.ty.get ty with
  |none=>rfl
  |some i=>
   simp only[wo]
   unfold apT
   cases v with
   |pointer a=>
    match a with
    |none=>rfl
    |some ⟨r',o',some _⟩=>rfl
    |some ⟨r',o',none⟩=>
     simp only[Zb,cw]
     congr 1
     congr 2
     cases i.agg<;>rfl
   |_=>rfl
theorem apart_cons(t:TypeId)(x y:Operand)(p:Op)(l:List Op):storeApart E T H (.store t x y) (p::l)=(match E.size t with
  |some n=>HX E T H n (p::l) (ev T x)
  |none=>false):=by
 simp only[storeApart,footOf]
 cases ev T x with
 |none=>cases E.size t<;>rfl
 |some v=>
  cases E.size t with
  |none=>rfl
  |some n=>
   simp only[wo]
   unfold HX
   cases v with
   |pointer a=>
    match a with
    |none=>rfl
    |some ⟨r',o',some _⟩=>rfl
    |some ⟨r',o',none⟩=>
     simp only[alone]
     cases H.objs.get r' with
     |none=>rfl
     |some ob=>match ob with
      | .row _ none _=>rfl
      | .row _ (some _) _=>rfl
      | .map _=>rfl
      | .loop .. =>rfl
      | .defers=>rfl
      | .iter .. =>rfl
      | .po .. =>rfl
      | .lh .. =>rfl
      | .lJ .. =>rfl
   |_=>rfl
def baseV(H:Heap):Option Value→Bool
 |some (.slice none _ _)=>true
 |some (.slice (some ⟨r,_,none⟩) _ _)=>(match H.objs.get r with
  |some (.row _ (some _) _)=>true
  |_=>false)
 |_=>false
theorem Zd(a b:Operand)(ts:Array TypeId)(p:Op)(l:List Op):storeApart E T H (.call {callee:= .builtin .append,args:= #[a,b],argTypes:=ts}) (p::l)=baseV H (ev T a):=by
 simp only[storeApart,appOf,lateBase]
 cases ev T a with
 |none=>rfl
 |some v=>
  unfold baseV
  cases v with
  |slice ad n c=>
   match ad with
   |none=>rfl
   |some ⟨_,_,some _⟩=>rfl
   |some ⟨r,o,none⟩=>
    simp only
    cases H.objs.get r with
    |none=>rfl
    |some ob=>match ob with
     | .row _ none _=>rfl
     | .row _ (some _) _=>rfl
     | .map _=>rfl
     | .loop .. =>rfl
     | .defers=>rfl
     | .iter .. =>rfl
     | .po .. =>rfl
     | .lh .. =>rfl
     | .lJ .. =>rfl
  |_=>rfl
def yO(H:Heap):Option Value→Bool
 |some (.pointer (some ⟨r,_,none⟩))=>alone (H.objs.get r)
 |_=>false
def Br(b:Bool):Option (Option Nat)→Bool
 |some _=>b
 |none=>false
theorem Ze(b:Bool)(a:Option Nat):Br b (some a)=b:=wE rfl rfl
theorem Zf(r o:Nat):yO H (some (ptr r o))=alone (H.objs.get r):=wE rfl rfl
theorem Zg(l c:Nat):baseV H (some (.slice none l c))=true:=wE rfl rfl
theorem Ob(t:TypeId)(x:Operand)(p:Op)(l:List Op)(h:∀ q∈p::l,(appOf q).isSome=true):storeApart E T H (.load t x) (p::l)=Br (yO H (ev T x)) (dh E t):=by
 have key:∀ (r k n:Nat) (m:List Op),(∀q∈m,(appOf q).isSome=true)→apartFrom E T H r k n m=true:=by
  intro r k n m
  induction m with
  |nil=>intro _;rfl
  |cons q m ih=>
   intro hm
   have h1:=hm q (wW ..)
   have h2:footOf E T q=none:=by
    cases q<;>simp only[appOf,Option.isSome_none,wG]at h1
    rfl
   simp only[apartFrom,h2,wa9]
   exact ih fun q hq=>hm q (wM _ hq)
 simp only[storeApart,appOf,footOf]
 cases ev T x with
 |none=>
  simp only[Option.bind_none,yO]
  cases dh E t<;>rfl
 |some v=>
  simp only[wo,dh]
  cases E.ty.get t with
  |none=>rfl
  |some i=>
   simp only[wo]
   cases v with
   |pointer a=>
    match a with
    |none=>cases i.agg<;>rfl
    |some ⟨_,_,some _⟩=>cases i.agg<;>rfl
    |some ⟨r',o',none⟩=>
     simp only[yO,Br,alone]
     cases H.objs.get r' with
     |none=>cases i.agg<;>rfl
     |some ob=>match ob with
      | .row _ none _=>simp only;rw[key _ _ _ _ h]
      | .row _ (some _) _=>cases i.agg<;>rfl
      | .map _=>cases i.agg<;>rfl
      | .loop .. =>cases i.agg<;>rfl
      | .defers=>cases i.agg<;>rfl
      | .iter .. =>cases i.agg<;>rfl
      | .po .. =>cases i.agg<;>rfl
      | .lh .. =>cases i.agg<;>rfl
      | .lJ .. =>cases i.agg<;>rfl
   |_=>cases i.agg<;>rfl
theorem Zh(t:TypeId)(x:Operand)(as:Array Operand)(ts:Array TypeId):storeApart E T H (.load t x) [.call {callee:= .builtin .append,args:=as,argTypes:=ts}]=Br (yO H (ev T x)) (dh E t):=
 Ob t x _ _ fun q hq=>by rw[waG]at hq;subst hq;rfl
theorem Zi(t:TypeId)(x:Operand)(as Zj:Array Operand)(ts Zk:Array TypeId):storeApart E T H (.load t x) [.call {callee:= .builtin .append,args:=as,argTypes:=ts},.call {callee:= .builtin .append,args:=Zj,argTypes:=Zk}]=Br (yO H (ev T x)) (dh E t):=
 Ob t x _ _ fun q hq=>by
  rcases wad.1 hq with rfl|hq
  ·rfl
  ·rw[waG]at hq;subst hq;rfl
theorem Zl(n:Nat)(l:List Op)(r o:Nat):HX E T H n l (some (ptr r o))=(alone (H.objs.get r)&&apartFrom E T H r o n l):=wE rfl rfl
theorem Zm(r o n r' o':Nat)(a:Option Nat):apT H r o n (some (ptr r' o')) (some a)=bif r==r' then decide (o+n≤o')||decide (o'+a.getD 1≤o)else(H.objs.get r').isSome:=wE rfl rfl
theorem Zn(c:List Value)(t:Bool):alone (some (.row c none t))=true:=wE rfl rfl
structure aq(H H':Heap):Prop where
 lo:H'.lo=H.lo
 ag:H.next≤H'.next
 objs:∀ x,x<H.next→H'.objs.get x=H.objs.get x
 grps:∀ x,x<H.next→H'.grps.get x=H.grps.get x
theorem aq.refl(H:Heap):aq H H:=⟨rfl,wy _,fun _ _=>rfl,fun _ _=>rfl⟩
theorem aq.trans{H' ki:Heap}(h:aq H H')(h':aq H' ki):aq H ki:=
 ⟨h'.lo.trans h.lo,wK h.ag h'.ag,fun x hx=>(h'.objs x (wq hx h.ag)).trans (h.objs x hx),fun x hx=>(h'.grps x (wq hx h.ag)).trans (h.grps x hx)⟩
theorem eO(c:List Value):aq H (H.newRow c):=
 ⟨aE c,by rw[az];omega,fun x hx=>by rw[aN,au (by omega)];rfl,fun x hx=>by rw[aM]⟩
theorem aq.newRow{H0:Heap}(h:aq H0 H)(c:List Value):aq H0 (H.newRow c):=h.trans (eO c)
theorem aq.setRow{H0:Heap}(h:aq H0 H){r:Nat}(hr:H0.next≤r)(c:List Value):aq H0 (H.setRow r c):=
 ⟨h.lo,h.ag,fun x hx=>by rw[ay,au (by omega)];exact h.objs x hx,h.grps⟩
theorem aq.keeps{H':Heap}(h:aq H H'){r:Nat}{ob:AObj}(hr:r<H.next)(ho:H.objs.get r=some ob):H'.objs.get r=some ob:=by rw[h.objs r hr,ho]
def SL{α:Type}(R:Heap→List Value→α→Prop)(z:Nat)(H:Heap)(v:Value)(l:List α):Prop:=
 ∃a cap,v= .slice a l.length cap∧(l.length≤cap∧l.length≤9223372036854775807)∧∀ i x,l[i]? =some x→∃ r o cells g t part,a=some ⟨r,o,none⟩∧r<H.next∧H.objs.get r=some (.row cells g t)∧cut cells (o+i*z) z=some part∧R H part x
structure Ext(H H':Heap):Prop where
 ag:H.next≤H'.next
 rows:∀ x cells g t,x<H.next→H.objs.get x=some (.row cells g t)→∃ t',H'.objs.get x=some (.row cells g t')
theorem aq.ext{H':Heap}(h:aq H H'):Ext H H':=⟨h.ag,fun _ _ _ t hx ho=>⟨t,h.keeps hx ho⟩⟩
def oj{α:Type}(R:Heap→List Value→α→Prop):Prop:=∀ H H' part x,Ext H H'→R H part x→R H' part x
theorem SL.ext{α:Type}{R:Heap→List Value→α→Prop}(hR:oj R){z:Nat}{H':Heap}{v:Value}{l:List α}(h:SL R z H v l)(hs:Ext H H'):SL R z H' v l:=by
 obtain⟨a,cap,h1,h2,h3⟩:=h
 refine⟨a,cap,h1,h2,fun i x hi=>?_⟩
 obtain⟨r,o,cells,g,t,part,h4,h5,h6,h7,h8⟩:=h3 i x hi
 obtain⟨t',h9⟩:=hs.rows r cells g t h5 h6
 exact⟨r,o,cells,g,t',part,h4,wq h5 hs.ag,h9,h7,hR _ _ _ _ hs h8⟩
theorem SL.mono{α:Type}{R:Heap→List Value→α→Prop}(hR:oj R){z:Nat}{H':Heap}{v:Value}{l:List α}(hs:aq H H')(h:SL R z H v l):SL R z H' v l:=h.ext hR hs.ext
theorem SL.nil{α:Type}(R:Heap→List Value→α→Prop)(z:Nat)(cap:Nat):SL R z H (.slice none 0 cap) []:=⟨none,cap,rfl,⟨wJ _,by simp⟩,fun i x hi=>by simp at hi⟩
theorem yF{l part:List Value}{o n:Nat}(h:cut l o n=some part):part.length=n∧o+n≤l.length∧part=(l.drop o).take n:=by
 rw[du]at h
 split at h
 ·rename_i ck
  simp only[wi]at h
  subst h
  refine⟨by simp;omega,ck,rfl⟩
 ·cases h
def RInt(k:IntKind):Heap→List Value→Int→Prop:=fun _ part n=>part=[.int k n]
theorem RInt.mono(k:IntKind):oj (RInt k):=fun _ _ _ _ _ h=>h
theorem SL.ofRow{α:Type}{R:Heap→List Value→α→Prop}{z r cap:Nat}{cells:List Value}{g:Option (Nat×Nat)}{t:Bool}{l:List α}(hr:r<H.next)(aC:H.objs.get r=some (.row cells g t))(D2:l.length≤cap)(bj:l.length≤9223372036854775807)
  (h:∀ i x,l[i]? =some x→∃ part,cut cells (i*z) z=some part∧R H part x):SL R z H (.slice (some ⟨r,0,none⟩) l.length cap) l:=by
 refine⟨_,cap,rfl,⟨D2,bj⟩,fun i x hi=>?_⟩
 obtain⟨part,h1,h2⟩:=h i x hi
 exact⟨r,0,cells,g,t,part,rfl,hr,aC,by rw[wau];exact h1,h2⟩
theorem Oc{cells:List Value}{k:Nat}{v:Value}(h:cut cells k 1=some [v]):cells[k]? =some v:=by
 rw[du]at h
 split at h
 ·simp only[wi]at h
  have:=congrArg (fun l=>l[0]?) h
  simpa using this
 ·simp at h
theorem wrap_i64{n:Int}(h1: -9223372036854775808≤n)(h2:n≤9223372036854775807):IntKind.i64.wrap n=n:=yC .i64 n h1 h2
theorem wrap_u64{n:Int}(h1:0≤n)(h2:n≤18446744073709551615):IntKind.u64.wrap n=n:=yC .u64 n h1 h2
def Heap.mU(H:Heap)(r:Nat)(cells:List Value)(g z:Nat)(aT:List Nat)(new:List Value):Heap:=
 {objs:=(H.objs.set r (.row cells (some (g,z)) false)).set H.next (.row new (some (g,z)) true),grps:=H.grps.set g (r::aT),next:=H.next+1,lo:=H.lo}
def dD(b z:Nat)(H:Heap)(v:Value)(n:Nat)(cs:List Value):Prop:=
 cs.length=n*z∧((v= .slice none 0 0∧n=0)∨
  ∃r,v= .slice (some ⟨r,0,none⟩) n n∧b≤r∧r<H.next∧
   (H.objs.get r=some (.row cs none true)∨∃ g aT,H.objs.get r=some (.row cs (some (g,z)) true)∧b≤g∧g<H.next∧H.grps.get g=some aT))
def eu(size bytes dC:Nat):Bool:= !Nat.beq size 0&&Nat.ble (dC*bytes) 10000000000&&Nat.ble dC 1000000000&&true
def appendT(size bytes:Nat)(H:Heap)(s:Value)(k:Nat)(new:List Value):Option (Value×Heap):=
 match s with
 | .slice none len cap=>
   bif Nat.ble (len+k) cap then some (.slice none (len+k) cap,H)
   else bif !eu size bytes (len+k)|| !Nat.beq len 0 then none
   else some (.slice (some ⟨H.next,0,none⟩) (len+k) (len+k),H.dd size new)
 | .slice (some ⟨r,o,none⟩) len cap=>
   bif Nat.ble (len+k) cap then
    bif Nat.beq k 0 then some (.slice (some ⟨r,o,none⟩) (len+k) cap,H)
    else(H.write r (o+len*size) new).bind fun H=>some (.slice (some ⟨r,o,none⟩) (len+k) cap,H)
   else bif !eu size bytes (len+k)then none
   else
    match H.objs.get r with
    |some (.row cells none _)=>
     (cut cells o (len*size)).bind fun l=>some (.slice (some ⟨H.next,0,none⟩) (len+k) (len+k),H.dd size (l++new))
    |some (.row cells (some (g,z)) true)=>
     bif Nat.beq (o+len*size) cells.length&&Nat.ble H.lo r&&Nat.beq z size&&new.all isCell then
      (cut cells o (len*size)).bind fun l=>(H.grow r cells g z (l++new)).bind fun H'=>some (.slice (some ⟨H.next,0,none⟩) (len+k) (len+k),H')
     else none
    |_=>none
 |_=>none
structure Grown(b:Nat)(H H':Heap):Prop where
 lo:H'.lo=H.lo
 ag:H.next≤H'.next
 below:∀ x,x<b→H'.objs.get x=H.objs.get x∧H'.grps.get x=H.grps.get x
 alone:∀ x cells t,x<H.next→H.objs.get x=some (.row cells none t)→H'.objs.get x=some (.row cells none t)
 cells:∀ x cells g t,x<H.next→H.objs.get x=some (.row cells g t)→∃ t',H'.objs.get x=some (.row cells g t')
theorem jj(z:Nat)(c:List Value)(x:Nat):(H.dd z c).objs.get x=bif x==H.next then some (.row c (some (H.next,z)) true)else H.objs.get x:=by
 simp only[Heap.dd,eU,Tr.force_eq]
 show(if x=H.next then some _ else H.objs x)=_
 by_cases h:x=H.next
 ·simp[h]
 ·have h':(x==H.next)=false:=by simpa using h
  rw[wI h,h'];rfl
theorem lz(z:Nat)(c:List Value)(x:Nat):(H.dd z c).grps.get x=bif x==H.next then some []else H.grps.get x:=by
 simp only[Heap.dd,eU,Tr.force_eq]
 show(if x=H.next then some _ else H.grps x)=_
 by_cases h:x=H.next
 ·simp[h]
 ·have h':(x==H.next)=false:=by simpa using h
  rw[wI h,h'];rfl
theorem gH(z:Nat)(c:List Value):(H.dd z c).next=H.next+1:=by simp only[Heap.dd,eU,Tr.force_eq]
theorem Bs(z:Nat)(c:List Value):(H.dd z c).lo=H.lo:=by simp only[Heap.dd,eU,Tr.force_eq]
theorem HA{r g z:Nat}{cells new:List Value}{aT:List Nat}(h:H.grps.get g=some aT):H.grow r cells g z new=some (H.mU r cells g z aT new):=by
 simp only[Heap.grow,h,eU,Tr.force_eq,Heap.mU]
theorem pG{r g z:Nat}{cells new:List Value}{aT:List Nat}(x:Nat):(H.mU r cells g z aT new).objs.get x=bif x==H.next then some (.row new (some (g,z)) true)else bif x==r then some (.row cells (some (g,z)) false)else H.objs.get x:=by
 show(if x=H.next then some _ else if x=r then some _ else H.objs x)=_
 by_cases h:x=H.next
 ·simp[h]
 ·rw[wI h,au h]
  by_cases h2:x=r
  ·simp[h2]
  ·rw[wI h2,au h2];rfl
theorem vH{r g z:Nat}{cells new:List Value}{aT:List Nat}(x:Nat):(H.mU r cells g z aT new).grps.get x=bif x==g then some (r::aT)else H.grps.get x:=by
 show(if x=g then some _ else H.grps x)=_
 by_cases h:x=g
 ·simp[h]
 ·rw[wI h,au h];rfl
theorem uk{b:Nat}(hb:b≤H.next)(z:Nat)(c:List Value):Grown b H (H.dd z c) where
 lo:=Bs z c
 ag:=by rw[gH];omega
 below x hx:=by rw[jj,lz,au (show x≠H.next by omega)];exact⟨rfl,rfl⟩
 alone x cells t hx h:=by rw[jj,au (by omega)];exact h
 cells x cells g t hx h:=⟨t,by rw[jj,au (by omega)];exact h⟩
theorem Nu{b r g z:Nat}{cells new:List Value}{aT:List Nat}(hb:b≤H.next)(hr:b≤r)(hg:b≤g)(aC:H.objs.get r=some (.row cells (some (g,z)) true)):Grown b H (H.mU r cells g z aT new) where
 lo:=rfl
 ag:=Nat.le_succ _
 below x hx:=by rw[pG,vH,au (show x≠H.next by omega),au (show x≠r by omega),au (show x≠g by omega)];exact⟨rfl,rfl⟩
 alone x c t hx h:=by
  have:x≠r:=fun e=>by rw[e,aC]at h;simp at h
  rw[pG,au (by omega),au this];exact h
 cells x c g' t hx h:=by
  rw[pG,au (by omega)]
  by_cases e:x=r
  ·rw[e,aC]at h
   simp only[wi,AObj.row.injEq]at h
   obtain⟨rfl,rfl,rfl⟩:=h
   exact⟨false,by rw[cr e];rfl⟩
  ·exact⟨t,by rw[au e];exact h⟩
theorem Grown.same{b:Nat}{H' H0:Heap}(h:Grown b H H')(h0:aq H0 H)(hb:H0.next≤b):aq H0 H':=
 ⟨h.lo.trans h0.lo,wK h0.ag h.ag,fun x hx=>((h.below x (by omega)).1).trans (h0.objs x hx),fun x hx=>((h.below x (by omega)).2).trans (h0.grps x hx)⟩
theorem vI{b size bytes:Nat}{s:Value}{n k:Nat}{cs new:List Value}(ho:dD b size H s n cs)(hb:b≤H.next)(an:H.lo≤b)(hk:k≠0)(nI:new.length=k*size)(kU:new.all isCell=true)(bf:eu size bytes (n+k)=true):
  ∃H',appendT size bytes H s k new=some (.slice (some ⟨H.next,0,none⟩) (n+k) (n+k),H')∧dD b size H' (.slice (some ⟨H.next,0,none⟩) (n+k) (n+k)) (n+k) (cs++new)∧Grown b H H'∧H'.next=H.next+1:=by
 have uj:Nat.ble (n+k) n=false:=waK.2 fun hh=>by have:=wan hh;omega
 have bj:(cs++new).length=(n+k)*size:=by rw[wN,ho.1,nI,waW]
 rcases ho with⟨hc,⟨rfl,rfl⟩|⟨r,rfl,h1,h2,h3⟩⟩
 ·have Bc:cs=[]:=wac (by omega)
  subst Bc
  have:Nat.ble (0+k) 0=false:=uj
  refine⟨H.dd size new,by simp only[appendT,this,bf,wS];rfl,⟨bj,.inr ⟨H.next,rfl,hb,by rw[gH];omega,.inr ⟨H.next,[],?_,hb,by rw[gH];omega,?_⟩⟩⟩,uk hb ..,gH ..⟩
  ·rw[jj,cr rfl];rfl
  ·rw[lz,cr rfl];rfl
 ·have aR:cut cs 0 (n*size)=some cs:=by rw[du,wF (by omega),waZ,wZ (by omega)]
  rcases h3 with h3|⟨g,aT,h3,h4,h5,h6⟩
  ·refine⟨H.dd size (cs++new),by simp only[appendT,uj,bf,wS,h3,aR,wo];rfl,⟨bj,.inr ⟨H.next,rfl,hb,by rw[gH];omega,.inr ⟨H.next,[],?_,hb,by rw[gH];omega,?_⟩⟩⟩,uk hb ..,gH ..⟩
   ·rw[jj,cr rfl];rfl
   ·rw[lz,cr rfl];rfl
  ·have e1:Nat.beq (0+n*size) cs.length=true:=by rw[hc,wau];exact wbc _
   have e2:Nat.ble H.lo r=true:=wP (by omega)
   have e3:Nat.beq size size=true:=wbc _
   refine⟨H.mU r cs g size aT (cs++new),by simp only[appendT,uj,bf,wS,h3,e1,e2,e3,kU,wb8,wai,aR,wo,HA h6];rfl,⟨bj,.inr ⟨H.next,rfl,hb,wcd _,.inr ⟨g,r::aT,?_,h4,wbf h5,?_⟩⟩⟩,Nu hb h1 h4 h3,rfl⟩
   ·rw[pG,cr rfl];rfl
   ·rw[vH,cr rfl];rfl
theorem dD.nil(b z:Nat)(H:Heap):dD b z H (.slice none 0 0) 0 []:=⟨by simp,.inl ⟨rfl,rfl⟩⟩
theorem dD.same{b z n:Nat}{v:Value}{cs:List Value}{H':Heap}(h:dD b z H v n cs)(hs:aq H H'):dD b z H' v n cs:=by
 rcases h with⟨hc,h|⟨r,h0,h1,h2,h3⟩⟩
 ·exact⟨hc,.inl h⟩
 ·refine⟨hc,.inr ⟨r,h0,h1,wq h2 hs.ag,?_⟩⟩
  rcases h3 with h3|⟨g,aT,h3,h4,h5,h6⟩
  ·exact .inl (hs.keeps h2 h3)
  ·exact .inr ⟨g,aT,hs.keeps h2 h3,h4,wq h5 hs.ag,by rw[hs.grps g h5];exact h6⟩
theorem dD.read{α:Type}{R:Heap→List Value→α→Prop}{b z n:Nat}{v:Value}{cs:List Value}{l:List α}(h:dD b z H v n cs)(hl:l.length=n)(bj:l.length≤9223372036854775807)(hR:∀ i x,l[i]? =some x→∃ part,cut cs (i*z) z=some part∧R H part x):SL R z H v l:=by
 subst hl
 rcases h with⟨hc,⟨rfl,h⟩|⟨r,rfl,h1,h2,h3⟩⟩
 ·have:l=[]:=wac h
  subst this
  exact SL.nil R z 0
 ·rcases h3 with h3|⟨g,aT,h3,_⟩
  ·exact SL.ofRow h2 h3 (wy _) bj hR
  ·exact SL.ofRow h2 h3 (wy _) bj hR
theorem Grown.ext{b:Nat}{H':Heap}(h:Grown b H H'):Ext H H':=⟨h.ag,h.cells⟩
def cY{α:Type}(R:Heap→List Value→α→Prop)(z:Nat)(H:Heap)(cs:List Value)(l:List α):Prop:=
 cs.length=l.length*z∧∀ i x,l[i]? =some x→∃ part,cut cs (i*z) z=some part∧R H part x
theorem cY.nil{α:Type}(R:Heap→List Value→α→Prop)(z:Nat)(H:Heap):cY R z H [] []:=⟨by simp,fun i x h=>by simp at h⟩
theorem cY.snoc{α:Type}{R:Heap→List Value→α→Prop}{z:Nat}{cs part:List Value}{l:List α}{x:α}(h:cY R z H cs l)(hp:part.length=z)(hx:R H part x):cY R z H (cs++part) (l++[x]):=by
 refine⟨by simp[h.1,hp,waW],fun i y hi=>?_⟩
 by_cases hlt:i<l.length
 ·rw[waf hlt]at hi
  obtain⟨p,h1,h2⟩:=h.2 i y hi
  refine⟨p,?_,h2⟩
  rw[du]at h1⊢
  split at h1
  ·rename_i ck
   rw[wF (by simp;omega),wbY (by omega),wbX (by simp;omega)]
   exact h1
  ·cases h1
 ·have dU:i=l.length:=by
   have:=(wD.1 hi).1
   simp at this;omega
  subst dU
  simp at hi
  subst hi
  refine⟨part,?_,hx⟩
  rw[←h.1,du,wF (by simp[hp]),List.drop_left,wZ (by omega)]
theorem cY.one{α:Type}{R:Heap→List Value→α→Prop}{z:Nat}{part:List Value}{x:α}(hp:part.length=z)(hx:R H part x):cY R z H part [x]:=by
 have:=(cY.nil R z H).snoc hp hx
 simpa using this
theorem dD.slice{b z n:Nat}{v:Value}{cs:List Value}(h:dD b z H v n cs):∃ a l c,v= .slice a l c:=by
 rcases h with⟨_,⟨rfl,_⟩|⟨r,rfl,_⟩⟩<;>exact⟨_,_,_,rfl⟩
theorem dD.reads{α:Type}{R:Heap→List Value→α→Prop}{b z n:Nat}{v:Value}{cs:List Value}{l:List α}(h:dD b z H v n cs)(hl:l.length=n)(bj:l.length≤9223372036854775807)(hR:cY R z H cs l):SL R z H v l:=h.read hl bj hR.2
structure mZ(k:Nat)(H H':Heap):Prop where
 lo:H'.lo=H.lo
 ag:H.next≤H'.next
 objs:∀ x,x<H.next→x≠k→H'.objs.get x=H.objs.get x
 grps:∀ x,x<H.next→H'.grps.get x=H.grps.get x
theorem aq.HY{H':Heap}(h:aq H H')(k:Nat):mZ k H H':=⟨h.lo,h.ag,fun x hx _=>h.objs x hx,h.grps⟩
theorem mZ.same{k:Nat}{H0 H':Heap}(h:mZ k H H')(h0:aq H0 H)(hk:H0.next≤k):aq H0 H':=
 ⟨h.lo.trans h0.lo,wK h0.ag h.ag,fun x hx=>(h.objs x (wq hx h0.ag) (by omega)).trans (h0.objs x hx),fun x hx=>(h.grps x (wq hx h0.ag)).trans (h0.grps x hx)⟩
theorem mZ.trans{k:Nat}{H' ki:Heap}(h:mZ k H H')(h':aq H' ki):mZ k H ki:=
 ⟨h'.lo.trans h.lo,wK h.ag h'.ag,fun x hx hk=>(h'.objs x (wq hx h.ag)).trans (h.objs x hx hk),fun x hx=>(h'.grps x (wq hx h.ag)).trans (h.grps x hx)⟩
theorem mZ.setRow{k:Nat}{H':Heap}(h:mZ k H H')(c:List Value):mZ k H (H'.setRow k c):=
 ⟨h.lo,h.ag,fun x hx hk=>by rw[ay,au hk];exact h.objs x hx hk,h.grps⟩
theorem mZ.keeps{k:Nat}{H':Heap}(h:mZ k H H'){r:Nat}{ob:AObj}(hr:r<H.next)(hk:r≠k)(ho:H.objs.get r=some ob):H'.objs.get r=some ob:=by rw[h.objs r hr hk,ho]
end
section
variable{E:Env}{sz:Nat}
def Heap.qD(H:Heap)(sz:Nat)(T:Tr Value)(ps:List Tmp)(as bo:Code):Heap:=(H.add .defers).add (.loop .ready none sz T ps as bo H.next)
theorem UX{f:Operand}{ps:Array Tmp}{as bo:Code}{T:Tr Value}{mk:List Nat}{H:Heap}{Q:Ex→Tr Value→List Nat→Heap→Prop}{g:FuncId}{first cap:Array Value}
  (h0:ev T f=some (.func (.func g) first cap))
  (ho:E.orc (.func (.func g) first cap) [.func (.yield (H.next+1)) #[] #[]] (H.qD sz T ps.toList as bo)=none)
  (h:af E (.func (.func g) first cap) [.func (.yield (H.next+1)) #[] #[]] (H.qD sz T ps.toList as bo) fun _ H3=>∃ st pending,H3.objs.get (H.next+1)=some (.loop st pending sz T ps.toList as bo H.next)∧st≠ .busy∧
   ((pending=none∧Q .normal T (H.next::mk) (H3.setObj (H.next+1) (.loop .exhausted none sz T ps.toList as bo H.next)))∨
    (pending=some .ret∧Q .ret T (H.next::mk) (H3.setObj (H.next+1) (.loop .exhausted (some .ret) sz T ps.toList as bo H.next))))):
  gi E sz (.rangeFunc f ps as bo) T mk none H Q:=by
 obtain⟨n,v,H3,hc,st,fK,hg,dt,hQ⟩:=h
 have hn:(H.add .defers).next=H.next+1:=iR H _
 cases n with
 |zero=>
  unfold fQ at hc
  rw[ho]at hc
  simp only[callBody,target,wo,run]at hc
  cases h1:E.fn.get g with
  |none=>simp[h1]at hc
  |some fn=>
   cases h2:fn.body with
   |none=>
    simp only[h1,h2,wo,KZ]at hc
    simp at hc
   |some c=>
    simp only[h1,h2,wo,Option.bind_none]at hc
    cases h3:(!Nat.ble (first.toList++[Value.func (.yield (H.next+1)) #[] #[]]++cap.toList).length fn.ntmps)<;>simp[h3]at hc
 |succ n=>
  unfold fQ at hc
  rw[ho]at hc
  have D6:callBody E (run E (n+1)) (.func (.func g) first cap) [.func (.yield (H.add .defers).next) #[] #[]] ((H.add .defers).add (.loop .ready none sz T ps.toList as bo H.next))=some (v,H3):=by
   rw[hn];exact hc
  rcases hQ with⟨rfl,hq⟩|⟨rfl,hq⟩
  ·refine⟨n+2,.normal,T,_,_,?_,hq⟩
   show runWith E (run E (n+1)) _ _ _=_
   simp only[runWith,h0,wo,rangeV,D6]
   rw[hn,hg]
   cases st<;>first|exact absurd rfl dt|rfl
  ·refine⟨n+2,.ret,T,_,_,?_,hq⟩
   show runWith E (run E (n+1)) _ _ _=_
   simp only[runWith,h0,wo,rangeV,D6]
   rw[hn,hg]
   cases st<;>first|exact absurd rfl dt|rfl
def UT(l:Nat)(H:Heap)(K:Value→Heap→Prop):Ex→Prop
 | .normal=>∃ H',H.setLoop l false .ready none=some H'∧K (.bool true) H'
 | .ret=>∃ H',H.setLoop l false .done (some .ret)=some H'∧K (.bool false) H'
 | .exit _=>False
theorem D7{g:FuncId}{fn:Func}{c:Code}{first captured:Array Value}{args:List Value}{H:Heap}{K:Value→Heap→Prop}(ho:E.orc (.func (.func g) first captured) args H=none)(h1:E.fn.get g=some fn)(h2:fn.body=some c)(h3:Nat.ble (first.toList++args++captured.toList).length fn.ntmps=true)
  (h:wp .go E fn.ntmps c pf (Tr.of (first.toList++args++captured.toList)) [] none H fun t ex T' br H'=>yH t ex (fun t=>∃ os,killMarks H.lo H'.objs br=some os∧optP t (resultsV E {objs:=os,grps:=H'.grps,next:=H'.next,lo:=H'.lo} T' fn.results.toList) fun _ vs=>K (jA vs) {objs:=os,grps:=H'.grps,next:=H'.next,lo:=H'.lo})):af E (.func (.func g) first captured) args H K:=by
 obtain⟨n,ex,T',br,H',h4,h5⟩:=yq c h
 refine⟨n,?_⟩
 have key:∀ os vs,killMarks H.lo H'.objs br=some os→resultsV E {objs:=os,grps:=H'.grps,next:=H'.next,lo:=H'.lo} T' fn.results.toList=some vs→(∀id,ex≠ .exit id)→fQ E (run E n) (.func (.func g) first captured) args H=some (jA vs,{objs:=os,grps:=H'.grps,next:=H'.next,lo:=H'.lo}):=by
  intro os vs hm hr hx
  unfold fQ
  rw[ho]
  simp only[callBody,target,wo,h1,h2,h3,wa7,wS,h4,hm,Tr.force_eq]
  cases ex with
  |exit id=>exact absurd rfl (hx id)
  |_=>simp only[hr,wo]
 cases ex with
 |exit id=>exact h5.elim
 |normal=>
  obtain⟨os,hm,vs,h6,h7⟩:=h5
  exact⟨_,_,key os vs hm h6 (by simp),h7⟩
 |ret=>
  obtain⟨os,hm,vs,h6,h7⟩:=h5
  exact⟨_,_,key os vs hm h6 (by simp),h7⟩
end
set_option linter.defProp false
section
variable{E:Env}{sz:Nat}{T:Tr Value}{H:Heap}
theorem Zo(x:Bool):(x==true)=x:=by cases x<;>rfl
theorem Zp(x:Bool):(x==false)= !x:=by cases x<;>rfl
end
theorem Zq{α:Type}(a b:α):(bif true then a else b)=a:=wE rfl rfl
theorem Zr{α:Type}(a b:α):(bif false then a else b)=b:=wE rfl rfl
theorem Zs{α β:Type}(a:α)(f:α→Option β):(some a).bind f=f a:=wE rfl rfl
theorem Zt{α β:Type}(a:α)(f:α→β):(some a).map f=some (f a):=wE rfl rfl
theorem Zu(n:Nat):n+0=n:=wE rfl rfl
theorem Zv{α:Type}(a:α)(l:List α):(a::l)[0]? =some a:=wE rfl rfl
theorem Zw{α:Type}(a:α)(i:Nat)(l:List α):(a::l)[i+1]? =l[i]? :=wE rfl rfl
theorem Zx{α:Type}(a:α)(l:List α):(a::l).length=l.length+1:=wE rfl rfl
theorem Zy{α:Type}:([]:List α).length=0:=wE rfl rfl
theorem Zz{α:Type}(l:List α):l.drop 0=l:=wE rfl rfl
theorem ZW{α:Type}(a:α)(l:List α)(i:Nat):(a::l).drop (i+1)=l.drop i:=wE rfl rfl
theorem ZX{α:Type}(l:List α):[]++l=l:=wE rfl rfl
theorem ZY{α:Type}(a:α)(l m:List α):a::l++m=a::(l++m):=wE rfl rfl
theorem ZZ{α:Type}(a:α)(l:List α)(f:α→Bool):(a::l).all f=(f a&&l.all f):=wE rfl rfl
theorem Z0{α:Type}(f:α→Bool):([]:List α).all f=true:=wE rfl rfl
theorem Z4:(!true)=false:=wE rfl rfl
theorem Z5:(!false)=true:=wE rfl rfl
theorem Z6(b:Bool):(true&&b)=b:=wE rfl rfl
theorem Z7(b:Bool):(false&&b)=false:=wE rfl rfl
theorem Z8(b:Bool):(true||b)=true:=wE rfl rfl
theorem Z9(b:Bool):(false||b)=b:=wE rfl rfl
theorem zaa{α:Type}(a:α):(some a).isSome=true:=wE rfl rfl
theorem zab{α:Type}:(none:Option α).isSome=false:=wE rfl rfl
theorem zac{h:Decidable True}:@decide True h=true:=by cases h<;>first|rfl|contradiction
theorem zad{h:Decidable False}:@decide False h=false:=by cases h<;>first|rfl|contradiction
theorem zae(n:Nat):0+n=n:=wau n
theorem zaf{α:Type}(i:Nat):([]:List α).drop i=[]:=by simp
theorem zag{α:Type}(l:List α):l++[]=l:=by simp
theorem zah(b:Bool):(b&&true)=b:=by simp
theorem zai(b:Bool):(b&&false)=false:=by simp
theorem zaj(b:Bool):(b||false)=b:=by simp
theorem zak(b:Bool):(!!b)=b:=by simp
theorem zal(n:Nat):(n==n)=true:=by simp
theorem zam(n:Bool):(n==n)=true:=by simp
def sh:=And.intro (And.intro (And.intro (And.intro (And.intro @wp_skip (And.intro @wp_region @XG)) (And.intro (And.intro @XH @XI) (And.intro @XJ @XK))) (And.intro (And.intro (And.intro @wp_cond @wp_block) (And.intro @wp_exit @wp_ret)) (And.intro (And.intro @XL @XM) (And.intro @XN @wpOps_cons)))) (And.intro (And.intro (And.intro @XO (And.intro @Ym @Yn)) (And.intro (And.intro @Yp @Yo) (And.intro @XP @XQ))) (And.intro (And.intro (And.intro @XR @XS) (And.intro @XT @XU)) (And.intro (And.intro @XV @XW) (And.intro @XX @XY))))) (And.intro (And.intro (And.intro (And.intro @Bl (And.intro @NZ @fP)) (And.intro (And.intro @yM @HR) (And.intro @N0 @fb))) (And.intro (And.intro (And.intro @HS @WI) (And.intro @WJ @WK)) (And.intro (And.intro @WM @WN) (And.intro @WO @WQ)))) (And.intro (And.intro (And.intro @WR (And.intro @WS @WT)) (And.intro (And.intro @WU @WV) (And.intro @WW @WX))) (And.intro (And.intro (And.intro @WY @W0) (And.intro @Eg @W1)) (And.intro (And.intro @W2 @W3) (And.intro @YD @Y9)))))
def sx:=And.intro (And.intro (And.intro (And.intro (And.intro (And.intro @Bl (And.intro @NZ @HS)) (And.intro (And.intro @fb @fP) (And.intro @yM @HR))) (And.intro (And.intro @N0 (And.intro @dm @of_nil)) (And.intro (And.intro @N3 @N4) (And.intro @N5 @Wy)))) (And.intro (And.intro (And.intro @Wz (And.intro @WA @WB)) (And.intro (And.intro @WC @WD) (And.intro @Eh @Ei))) (And.intro (And.intro (And.intro @WE @WG) (And.intro @WH @WZ)) (And.intro (And.intro @XZ @results_tmp) (And.intro @X0 @Ya))))) (And.intro (And.intro (And.intro (And.intro @Yb (And.intro @Yc @Ye)) (And.intro (And.intro @W4 @W5) (And.intro @W6 @W7))) (And.intro (And.intro @W8 (And.intro @W9 @Xa)) (And.intro (And.intro @Xb @Xd) (And.intro @Xe @Xf)))) (And.intro (And.intro (And.intro @Xg (And.intro @Xh @Xi)) (And.intro (And.intro @Xj @Xk) (And.intro @Xl @Xm))) (And.intro (And.intro (And.intro @Xn @Xo) (And.intro @Xp @Xq)) (And.intro (And.intro @Xr @Xs) (And.intro @Xt @Xu)))))) (And.intro (And.intro (And.intro (And.intro (And.intro @Xv (And.intro @Xw @Xx)) (And.intro (And.intro @Xy @qM) (And.intro @az @aE))) (And.intro (And.intro @aN (And.intro @aM @ay)) (And.intro (And.intro @aF @aB) (And.intro @aO @Xz)))) (And.intro (And.intro (And.intro @XA (And.intro @XB @XC)) (And.intro (And.intro @XD @XE) (And.intro @XF @Yz))) (And.intro (And.intro (And.intro @Yt @Yu) (And.intro @Ek @Yw)) (And.intro (And.intro @Yx @Yy) (And.intro @Bg @Bf))))) (And.intro (And.intro (And.intro (And.intro @YZ (And.intro @Y0 @Y4)) (And.intro (And.intro @Y5 @Nx) (And.intro @Ny @Y6))) (And.intro (And.intro (And.intro @Y8 @Y7) (And.intro @gF @KT)) (And.intro (And.intro @aD @aH) (And.intro @aL @CY)))) (And.intro (And.intro (And.intro @aQ (And.intro @aP @Yr)) (And.intro (And.intro @apart_cons @Zl) (And.intro @Zm @Zn))) (And.intro (And.intro (And.intro @Za @Zc) (And.intro @Yi @Yj)) (And.intro (And.intro @Yk @Yl) (And.intro @Zo @Zp))))))
def sl:=And.intro (And.intro (And.intro (And.intro (And.intro @Zq @Zr) (And.intro @Zs @Zt)) (And.intro (And.intro @Zu @Zv) (And.intro @Zw (And.intro @Zx @Zy)))) (And.intro (And.intro (And.intro @Zz @ZW) (And.intro @ZX @ZY)) (And.intro (And.intro @ZZ @Z0) (And.intro @Z4 (And.intro @Z5 @Z6))))) (And.intro (And.intro (And.intro (And.intro @Z7 @Z8) (And.intro @Z9 @zaa)) (And.intro (And.intro @zab @zac) (And.intro @zad (And.intro @zae @zaf)))) (And.intro (And.intro (And.intro @zag @zah) (And.intro @zai @zaj)) (And.intro (And.intro @zak @zal) (And.intro @zam (And.intro @wbT @wcl)))))
section
variable{H:Heap}
def aK(g:Nat):Value:= .func (.func g) #[] #[]
theorem qJ{cells:List Value}{k:Nat}{a b:Value}(h:cut cells k 2=some [a,b]):cells[k]? =some a∧cells[k+1]? =some b:=by
 obtain⟨_,_,h3⟩:=yF h
 have e0:((cells.drop k).take 2)[0]? =cells[k]? :=by simp[wab,wae]
 have e1:((cells.drop k).take 2)[1]? =cells[k+1]? :=by simp[wab,wae]
 rw[←e0,←e1,←h3]
 exact⟨rfl,rfl⟩
theorem yG{cells:List Value}{k:Nat}{a b c:Value}(h:cut cells k 3=some [a,b,c]):cells[k]? =some a∧cells[k+1]? =some b∧cells[k+2]? =some c:=by
 obtain⟨_,_,h3⟩:=yF h
 have e0:((cells.drop k).take 3)[0]? =cells[k]? :=by simp[wab,wae]
 have e1:((cells.drop k).take 3)[1]? =cells[k+1]? :=by simp[wab,wae]
 have e2:((cells.drop k).take 3)[2]? =cells[k+2]? :=by simp[wab,wae]
 rw[←e0,←e1,←e2,←h3]
 exact⟨rfl,rfl,rfl⟩
theorem od(H:Heap)(c d:List Value):aq H ((H.newRow c).setRow H.next d):=(eO _).setRow (wy _) _
theorem Hz(T:Tr Value):ev T (.const .nilFunc)=some .nilFunc:=wE rfl rfl
theorem pz(H:Heap)(o:AObj)(r:Nat):(H.add o).objs.get r=bif r==H.next then some o else H.objs.get r:=by
 simp only[Heap.add,eU,Tr.force_eq]
 show(if r=H.next then some _ else H.objs r)=_
 by_cases h:r=H.next
 ·simp[h]
 ·have h':(r==H.next)=false:=by simpa using h
  rw[wI h,h'];rfl
theorem iU(H:Heap)(l:Nat)(o:AObj)(x:Nat):(H.setObj l o).objs.get x=bif x==l then some o else H.objs.get x:=by
 simp only[Heap.setObj,Tr.force_eq]
 show(if x=l then some _ else H.objs x)=_
 by_cases h:x=l
 ·simp[h]
 ·have h':(x==l)=false:=by simpa using h
  rw[wI h,h'];rfl
theorem px(H:Heap)(l:Nat)(o:AObj):(H.setObj l o).next=H.next:=by simp only[Heap.setObj,Tr.force_eq]
theorem yl(H:Heap)(l:Nat)(o:AObj):(H.setObj l o).lo=H.lo:=by simp only[Heap.setObj,Tr.force_eq]
theorem yn(H:Heap)(l:Nat)(o:AObj):(H.setObj l o).grps=H.grps:=by simp only[Heap.setObj,Tr.force_eq]
theorem AI(H:Heap)(o:AObj):aq H (H.add o):=
 ⟨vn H o,by rw[iR];omega,fun x hx=>by rw[pz,au (by omega)];rfl,fun x _=>by rw[Av]⟩
theorem UY{H:Heap}{l s d:Nat}{p:Option Code}{T:Tr Value}{ps:List Tmp}{a b:Code}(h:H.objs.get l=some (.loop .ready p s T ps a b d)):H.setLoop l true .busy none=some (H.setObj l (.loop .busy p s T ps a b d)):=by simp only[Heap.setLoop,h]
theorem Me{H:Heap}{l s d:Nat}{Wb st:LoopState}{p q:Option Code}{T:Tr Value}{ps:List Tmp}{a b:Code}(h:H.objs.get l=some (.loop Wb p s T ps a b d)):H.setLoop l false st q=some (H.setObj l (.loop st q s T ps a b d)):=by simp only[Heap.setLoop,h]
theorem Be{lo k:Nat}{t:Tr AObj}(h:t.get k=some .defers)(hk:lo≤k):killMarks lo t [k]=some (t.del k):=by
 have hb:Nat.ble lo k=true:=by simpa using hk
 simp only[killMarks,h,hb,wai]
theorem ui(t:Tr AObj)(k x:Nat)(h:x≠k):(t.del k).get x=t.get x:=by
 show(if x=k then none else t x)=_
 rw[wI h];rfl
theorem Nt{H X:Heap}(h:aq H X){k:Nat}(hk:H.next≤k){n l:Nat}{gr:Tr (List Nat)}(hn:n=X.next)(hl:l=X.lo)(hg:gr=X.grps):aq H ⟨X.objs.del k,gr,n,l⟩:=by
 subst hn;subst hl;subst hg
 exact⟨h.lo,h.ag,fun x hx=>(ui _ _ _ (by omega)).trans (h.objs x hx),h.grps⟩
def b8(b z:Nat)(H:Heap)(v:Value)(n:Nat)(cs:List Value)(f:Option (Nat×Nat)):Prop:=
 cs.length=n*z∧match f with
  |none=>v= .slice none 0 0∧n=0
  |some (r,g)=>v= .slice (some ⟨r,0,none⟩) n n∧b≤r∧r<H.next∧b≤g∧g<H.next∧∃ aT,H.objs.get r=some (.row cs (some (g,z)) true)∧H.grps.get g=some aT
def pF:Option (Nat×Nat)→Option (Nat×Nat)→Prop
 |some (r,g),some (r2,g2)=>r≠r2∧g≠g2
 |_,_=>True
theorem b8.own{b z n:Nat}{v:Value}{cs:List Value}{f:Option (Nat×Nat)}(h:b8 b z H v n cs f):dD b z H v n cs:=by
 obtain⟨h0,h⟩:=h
 match f,h with
 |none,h=>exact⟨h0,.inl h⟩
 |some (r,g),⟨h1,h2,h3,h4,h5,aT,h6,h7⟩=>exact⟨h0,.inr ⟨r,h1,h2,h3,.inr ⟨g,aT,h6,h4,h5,h7⟩⟩⟩
theorem b8.nil(b z:Nat)(H:Heap):b8 b z H (.slice none 0 0) 0 [] none:=⟨by simp,rfl,rfl⟩
theorem b8.cJ{b z n:Nat}{v:Value}{cs:List Value}{f:Option (Nat×Nat)}{H':Heap}(h:b8 b z H v n cs f)(hn:H.next≤H'.next)(ho:∀ r g,f=some (r,g)→H'.objs.get r=H.objs.get r∧H'.grps.get g=H.grps.get g):b8 b z H' v n cs f:=by
 obtain⟨h0,h⟩:=h
 match f,h,ho with
 |none,h,_=>exact⟨h0,h⟩
 |some (r,g),⟨h1,h2,h3,h4,h5,aT,h6,h7⟩,ho=>
  obtain⟨e1,e2⟩:=ho r g rfl
  exact⟨h0,h1,h2,by omega,h4,by omega,aT,by rw[e1];exact h6,by rw[e2];exact h7⟩
theorem b8.below{b z n:Nat}{v:Value}{cs:List Value}{r g:Nat}(h:b8 b z H v n cs (some (r,g))):r<H.next∧g<H.next:=by
 obtain⟨_,h1,h2,h3,h4,h5,_⟩:=h
 exact⟨h3,h5⟩
theorem b8.same{b z n:Nat}{v:Value}{cs:List Value}{f:Option (Nat×Nat)}{H':Heap}(h:b8 b z H v n cs f)(hs:aq H H'):b8 b z H' v n cs f:=
 h.cJ hs.ag fun r g e=>by subst e;exact⟨hs.objs r h.below.1,hs.grps g h.below.2⟩
theorem qK{b size bytes:Nat}{s:Value}{n k:Nat}{cs new:List Value}{f:Option (Nat×Nat)}(ho:b8 b size H s n cs f)(hb:b≤H.next)(an:H.lo≤b)(hk:k≠0)(nI:new.length=k*size)(kU:new.all isCell=true)(bf:eu size bytes (n+k)=true):
  ∃H' f',appendT size bytes H s k new=some (.slice (some ⟨H.next,0,none⟩) (n+k) (n+k),H')∧b8 b size H' (.slice (some ⟨H.next,0,none⟩) (n+k) (n+k)) (n+k) (cs++new) f'∧Grown b H H'∧H'.next=H.next+1∧
   ∀z2 v2 n2 cs2 f2,b8 b z2 H v2 n2 cs2 f2→pF f f2→b8 b z2 H' v2 n2 cs2 f2∧pF f' f2:=by
 have uj:Nat.ble (n+k) n=false:=waK.2 fun hh=>by have:=wan hh;omega
 obtain⟨hc,ho⟩:=ho
 have bj:(cs++new).length=(n+k)*size:=by rw[wN,hc,nI,waW]
 match f,ho with
 |none,⟨h1,h2⟩=>
  subst h1 h2
  have Bc:cs=[]:=wac (by omega)
  subst Bc
  have:Nat.ble (0+k) 0=false:=uj
  refine⟨H.dd size new,some (H.next,H.next),by simp only[appendT,this,bf,wS];rfl,⟨bj,rfl,hb,by rw[gH];omega,hb,by rw[gH];omega,[],?_,?_⟩,uk hb ..,gH ..,?_⟩
  ·rw[jj,cr rfl];rfl
  ·rw[lz,cr rfl];rfl
  ·intro z2 v2 n2 cs2 f2 h2 _
   refine⟨h2.cJ (by rw[gH];omega) fun r g e=>?_,?_⟩
   ·subst e
    have:=h2.below
    exact⟨by rw[jj,au (by omega)];rfl,by rw[lz,au (by omega)];rfl⟩
   ·match f2,h2 with
    |none,_=>trivial
    |some (r,g),h2=>have:=h2.below;exact⟨by omega,by omega⟩
 |some (r,g),⟨h0,h1,h2,h4,h5,aT,h3,h6⟩=>
  subst h0
  have aR:cut cs 0 (n*size)=some cs:=by rw[du,wF (by omega),waZ,wZ (by omega)]
  have e1:Nat.beq (0+n*size) cs.length=true:=by rw[hc,wau];exact wbc _
  have e2:Nat.ble H.lo r=true:=wP (by omega)
  have e3:Nat.beq size size=true:=wbc _
  refine⟨H.mU r cs g size aT (cs++new),some (H.next,g),by simp only[appendT,uj,bf,wS,h3,e1,e2,e3,kU,wb8,wai,aR,wo,HA h6];rfl,⟨bj,rfl,hb,wcd _,h4,wbf h5,r::aT,?_,?_⟩,Nu hb h1 h4 h3,rfl,?_⟩
  ·rw[pG,cr rfl];rfl
  ·rw[vH,cr rfl];rfl
  ·intro z2 v2 n2 cs2 f2 hf hd
   refine⟨hf.cJ (Nat.le_succ _) fun r2 g2 e=>?_,?_⟩
   ·subst e
    have:=hf.below
    obtain⟨d1,d2⟩:=hd
    exact⟨by rw[pG,au (by omega),au (by omega)];rfl,by rw[vH,au (by omega)];rfl⟩
   ·match f2,hf,hd with
    |none,_,_=>trivial
    |some (r2,g2),hf,hd=>have:=hf.below;exact⟨by omega,hd.2⟩
theorem HB{b size bytes:Nat}{s:Value}{n k:Nat}{cs new:List Value}(ho:dD b size H s n cs)(hb:b≤H.next)(an:H.lo≤b)(nI:new.length=k*size)(kU:new.all isCell=true)(bf:eu size bytes (n+k)=true):
  ∃s' H',appendT size bytes H s k new=some (s',H')∧dD b size H' s' (n+k) (cs++new)∧Grown b H H':=by
 by_cases hk:k=0
 ·subst hk
  have:new=[]:=wac (by omega)
  subst this
  have hg:Grown b H H:=⟨rfl,wy _,fun _ _=>⟨rfl,rfl⟩,fun _ _ _ _ h=>h,fun _ _ _ t _ h=>⟨t,h⟩⟩
  rw[waw]
  obtain⟨hc,ho⟩:=ho
  rcases ho with⟨rfl,rfl⟩|⟨r,rfl,h1,h2,h3⟩
  ·exact⟨_,_,rfl,⟨hc,.inl ⟨rfl,rfl⟩⟩,hg⟩
  ·refine⟨_,_,by simp only[appendT,waX,show Nat.ble n n=true from wP (wy _),wai];rfl,⟨hc,.inr ⟨r,rfl,h1,h2,h3⟩⟩,hg⟩
 ·obtain⟨H',h1,h2,h3,h4⟩:=vI (k:=k) ho hb an hk nI kU bf
  exact⟨_,_,h1,h2,h3⟩
theorem Nv{b:Nat}{H H':Heap}(h:aq H H')(hb:b≤H.next):Grown b H H':=
 ⟨h.lo,h.ag,fun x hx=>⟨h.objs x (by omega),h.grps x (by omega)⟩,fun x c t hx ho=>h.keeps hx ho,fun x c g t hx ho=>⟨t,h.keeps hx ho⟩⟩
theorem Grown.trans{b:Nat}{H H' ki:Heap}(h:Grown b H H')(h':Grown b H' ki):Grown b H ki:=
 ⟨h'.lo.trans h.lo,wK h.ag h'.ag,fun x hx=>⟨((h'.below x hx).1).trans (h.below x hx).1,((h'.below x hx).2).trans (h.below x hx).2⟩,
   fun x c t hx ho=>h'.alone x c t (wq hx h.ag) (h.alone x c t hx ho),
   fun x c g t hx ho=>let⟨t',h1⟩:=h.cells x c g t hx ho;h'.cells x c g t' (wq hx h.ag) h1⟩
structure Down(b:Nat)(H H':Heap):Prop where
 lo:H'.lo=H.lo
 ag:H.next≤H'.next
 below:∀ x,x<b→H'.objs.get x=H.objs.get x∧H'.grps.get x=H.grps.get x
theorem Grown.low{b:Nat}{H':Heap}(h:Grown b H H'):Down b H H':=⟨h.lo,h.ag,h.below⟩
def Nw(b z:Nat)(H:Heap)(v:Value)(n:Nat)(cs:List Value):Prop:=
 cs.length=n*z∧∃ r g aT,v= .slice (some ⟨r,0,none⟩) n n∧b≤r∧r<H.next∧H.objs.get r=some (.row cs (some (g,z)) true)∧b≤g∧g<H.next∧H.grps.get g=some aT∧∀ x∈aT,b≤x∧x<H.next∧x≠r
theorem Nw.own{b z n:Nat}{v:Value}{cs:List Value}(h:Nw b z H v n cs):dD b z H v n cs:=by
 obtain⟨h0,r,g,aT,h1,h2,h3,h4,h5,h6,h7,_⟩:=h
 exact⟨h0,.inr ⟨r,h1,h2,h3,.inr ⟨g,aT,h4,h5,h6,h7⟩⟩⟩
theorem tA(new:List Value):∀ (o:Nat) (l:List Value),o+new.length≤l.length→over new o l=l.take o++new++l.drop (o+new.length)
 |0,l,h=>by rw[Nx,wcq,wL,wau]
 |o+1,[],h=>by simp at h
 |o+1,x::l,h=>by rw[Ny,tA new o l (by simp at h;omega),wch,show o+1+new.length=(o+new.length)+1 by omega,waV];rfl
def oe(H:Heap)(v:Value):Prop:=∀ a l c,v= .slice a l c→a=none∨∃ r cells g t,a=some ⟨r,0,none⟩∧r<H.next∧H.objs.get r=some (.row cells g t)
theorem oe.same{H':Heap}{v:Value}(h:oe H v)(hs:aq H H'):oe H' v:=by
 intro a l c e
 rcases h a l c e with h|⟨r,cells,g,t,h1,h2,h3⟩
 ·exact .inl h
 ·exact .inr ⟨r,cells,g,t,h1,wq h2 hs.ag,hs.keeps h2 h3⟩
theorem HC{cells:List Value}{m o z:Nat}(h:o+z≤m)(hm:m≤cells.length):cut (cells.take m) o z=cut cells o z:=by
 rw[du,du,wF (by simp;omega),wF (by omega),wcO,wcN,waS (by omega)]
theorem SL.vJ{α:Type}{R:Heap→List Value→α→Prop}{z:Nat}{v:Value}{l:List α}(h:SL R z H v l)(hr:oe H v):∃ a c cs,v= .slice a l.length c∧cellsOf H (l.length*z) (.slice a l.length c)=some cs∧cY R z H cs l:=by
 obtain⟨a,c,rfl,bj,h⟩:=h
 refine⟨a,c,?_⟩
 match l,h with
 |[],h=>
  refine⟨[],rfl,?_,cY.nil _ _ _⟩
  rw[waA,wb2]
  rcases hr a _ c rfl with rfl|⟨r,cells,g,t,rfl,h2,h3⟩
  ·rw[Nz,wF rfl]
  ·rw[Bf,h3,wo,Bg,du,wF (by omega),wcq]
 |x::l,h=>
  obtain⟨r,o,cells,g,t,part,rfl,h2,h3,_⟩:=h 0 x rfl
  have key:∀ i y,(x::l)[i]? =some y→∃ part,cut cells (o+i*z) z=some part∧R H part y:=by
   intro i y hi
   obtain⟨r',o',cells',g',t',Bh,e,h4,h5,h6,h7⟩:=h i y hi
   simp only[wi,wcE,wcl]at e
   obtain⟨rfl,rfl⟩:=e
   rw[h3]at h5
   simp only[wi,AObj.row.injEq]at h5
   obtain⟨rfl,_,_⟩:=h5
   exact⟨Bh,h6,h7⟩
  have cf:o+(x::l).length*z≤cells.length:=by
   obtain⟨part,h4,_⟩:=key l.length _ (wj (by simp))
   obtain⟨_,h5,_⟩:=yF h4
   rw[wY,waW,wbU]
   omega
  refine⟨(cells.drop o).take ((x::l).length*z),rfl,?_,⟨?_,fun i y hi=>?_⟩⟩
  ·rw[Bf,h3,wo,Bg,du,wF cf]
  ·simp only[wU,wbe];omega
  ·obtain⟨part,h4,h5⟩:=key i y hi
   refine⟨part,?_,h5⟩
   have dU:=(wD.1 hi).1
   have:=waQ z (show i+1≤(x::l).length by omega)
   rw[waW,wbU]at this
   rw[HC this (by simp only[wbe];omega),du,wF (by simp only[wbe];omega),wbZ]
   rw[du,wF (by omega)]at h4
   exact h4
theorem two(p q:Prop)[Decidable p][Decidable q]:(decide p=true∧decide q=true)∨decide p=false∨(decide p=true∧decide q=false):=by
 by_cases hp:p<;>by_cases hq:q<;>simp[hp,hq]
theorem SX{H:Heap}(r o:Nat)(new cs:List Value)(g:Nat×Nat):writeV H r o new (some (.row cs (some g) true))=H.xZ r o new:=wE rfl rfl
def D5{α β:Type}(R:Heap→List Value→α→Prop)(S:Heap→List Value→β→Prop)(z y b:Nat)(H:Heap)(v w:Value)(L:List α)(M:List β):Prop:=
 ∃c d f e,(b8 b z H v L.length c f∧cY R z H c L)∧(b8 b y H w M.length d e∧cY S y H d M)∧pF f e
section
variable{α β:Type}{R:Heap→List Value→α→Prop}{S:Heap→List Value→β→Prop}{z y b:Nat}{v w:Value}{L:List α}{M:List β}
theorem D5.nil(b:Nat)(H:Heap):D5 R S z y b H (.slice none 0 0) (.slice none 0 0) [] []:=⟨[],[],none,none,⟨b8.nil _ _ _,cY.nil _ _ _⟩,⟨b8.nil _ _ _,cY.nil _ _ _⟩,trivial⟩
theorem D5.first(h:D5 R S z y b H v w L M)(hl:L.length≤9223372036854775807):SL R z H v L:=by
 obtain⟨c,d,f,e,⟨a1,a2⟩,_⟩:=h
 exact a1.own.reads rfl hl a2
end
theorem SU{E:Env}(t:TypeId)(x y:Operand)(a a':Option Addr)(l c l' c':Nat):binV E .eql t x y (.slice a l c) (.slice a' l' c')=(eqV E (99+1) t (.slice a l c) (.slice a' l' c')).bind fun r=>some (.bool r):=wE rfl rfl
theorem SV{E:Env}(t:TypeId)(x y:Operand)(a b:Bool):binV E .eql t x y (.bool a) (.bool b)=(eqV E (99+1) t (.bool a) (.bool b)).bind fun r=>some (.bool r):=wE rfl rfl
theorem SW{E:Env}(t:TypeId)(x y:Operand)(a b:Bool):binV E .neq t x y (.bool a) (.bool b)=(eqV E (99+1) t (.bool a) (.bool b)).bind fun r=>some (.bool (!r)):=wE rfl rfl
theorem vK{E:Env}{y:Value}{args:List Value}{H:Heap}{K:Value→Heap→Prop}(h:∀ H1,H1=H→af E y args H1 K):af E y args H K:=h H rfl
theorem FR(a b c d:Value):Tr.of [a,b,c,d]=(((Tr.nil.set 0 a).set 1 b).set 2 c).set 3 d:=wE rfl rfl
theorem KS(a b c d e:Value):Tr.of [a,b,c,d,e]=((((Tr.nil.set 0 a).set 1 b).set 2 c).set 3 d).set 4 e:=wE rfl rfl
end
theorem ak{p:Prop}[Decidable p]{P R:Tok→Prop}(h1:p→P .go)(h2:¬p→R .go):boolP (decide p) P R:=⟨fun h=>h1 (wap h),fun h=>h2 (wbI h)⟩
theorem bw{c:Bool}{P R:Tok→Prop}(h:boolP c R P):boolP (!c) P R:=by
 cases c
 ·exact⟨fun _=>h.2 rfl,fun e=>by cases e⟩
 ·exact⟨fun e=>(by cases e),fun _=>h.1 rfl⟩
theorem cO{c:Bool}{P R:Tok→Prop}(h1:c=true→P .go)(h2:c=false→R .go):boolP c P R:=⟨h1,h2⟩
structure Ko(H H':Heap):Prop where
 ag:H.next≤H'.next
 objs:∀ x,x<H.next→H'.objs.get x=H.objs.get x
 grps:∀ x,x<H.next→H'.grps.get x=H.grps.get x
section
variable{H0 H H':Heap}
theorem Ko.refl(H:Heap):Ko H H:=⟨wy _,fun _ _=>rfl,fun _ _=>rfl⟩
theorem aq.ko(h:aq H H'):Ko H H':=⟨h.ag,h.objs,h.grps⟩
theorem Ko.same(h:Ko H H')(hl:H'.lo=H.lo):aq H H':=⟨hl,h.ag,h.objs,h.grps⟩
theorem Ko.trans(h:Ko H0 H)(h':Ko H H'):Ko H0 H':=
 ⟨wK h.ag h'.ag,fun x hx=>(h'.objs x (wq hx h.ag)).trans (h.objs x hx),fun x hx=>(h'.grps x (wq hx h.ag)).trans (h.grps x hx)⟩
theorem Ko.call(h:Ko H0 H)(h':aq H H'):Ko H0 H':=h.trans h'.ko
theorem Ko.newRow(h:Ko H0 H)(c:List Value):Ko H0 (H.newRow c):=h.call (eO c)
theorem Ko.bU(h:Ko H0 H)(n:Nat):Ko H0 (H.bU n):=⟨h.ag,h.objs,h.grps⟩
theorem Ko.setRow(h:Ko H0 H){r:Nat}(hr:H0.next≤r)(c:List Value):Ko H0 (H.setRow r c):=
 ⟨h.ag,fun x hx=>by rw[ay,au (by omega)];exact h.objs x hx,h.grps⟩
theorem Ko.keeps(h:Ko H H'){r:Nat}{ob:AObj}(hr:r<H.next)(ho:H.objs.get r=some ob):H'.objs.get r=some ob:=by rw[h.objs r hr,ho]
theorem Ko.ext(h:Ko H H'):Ext H H':=⟨h.ag,fun _ _ _ t hx ho=>⟨t,h.keeps hx ho⟩⟩
end
theorem eZ{b:Bool}{p:Prop}[Decidable p](h:b=true↔p):Value.bool b= .bool (decide p):=by
 cases b
 ·exact congrArg _ (wx fun hp=>by have:=h.2 hp;cases this).symm
 ·exact congrArg _ (wz (h.1 rfl)).symm
theorem CS{E:Env}{f:Value}{args:List Value}{H0 H1:Heap}{K:Value→Heap→Prop}{v:Value}(hk:Ko H0 H1)(hc:af E f args H1 fun r H'=>r=v∧aq H1 H')
  (k:∀ H2,Ko H0 H2→H2.lo=H1.lo→H1.next≤H2.next→(∀x,x<H1.next→H2.objs.get x=H1.objs.get x)→(∀x,x<H1.next→H2.grps.get x=H1.grps.get x)→K v H2):af E f args H1 K:=
 hc.mono fun _ H2 ⟨e,s⟩=>e▸k H2 (hk.call s) s.lo s.ag s.objs s.grps
theorem Aj{E:Env}{sz:Nat}{c:Code}{T:Tr Value}{mk:List Nat}{ro:Option Nat}{H:Heap}{Q:Ex→Tr Value→List Nat→Heap→Prop}(h:∀ T1 H1,T1=T→H1=H→gi E sz c T1 mk ro H1 Q):gi E sz c T mk ro H Q:=h T H rfl rfl
theorem bL{E:Env}{sz:Nat}{c:Code}(hn:headNext c=none){T:Tr Value}{mk:List Nat}{ro:Option Nat}{H:Heap}{Q:Ex→Tr Value→List Nat→Heap→Prop}(I:Nat→Tr Value→Heap→Prop)(h0:∃ n0,I n0 T H)
  (step:∀ n T H,I n T H→∀ Qs:Tok→Ex→Tr Value→List Nat→Heap→Prop,Hid (∀T' H' m,m<n→I m T' H'→Qs .go .normal T' mk H')→Hid (∀T' br H',Q .ret T' br H'→Qs .go .ret T' br H')→Hid (∀i T' br H',Q (.exit i) T' br H'→Qs .go (.exit i) T' br H')→wp .go E sz c pf T mk ro H Qs):gi E sz (.loop c) T mk ro H Q:=
 let⟨n0,h⟩:=h0
 FO hn I n0 h step
theorem SA(l:List Value):cut l 0 0=some []:=by rw[du];simp
theorem SB(x:Value)(l:List Value)(n:Nat):cut (x::l) 0 (n+1)=(cut l 0 n).map (List.cons x):=by
 rw[du,du]
 by_cases h:n≤l.length
 ·rw[wF (by simp;omega),wF (by omega)];rfl
 ·rw[wI (by simp;omega),wI (by omega)];rfl
theorem SC(x:Value)(l:List Value)(o n:Nat):cut (x::l) (o+1) n=cut l o n:=by
 rw[du,du]
 by_cases h:o+n≤l.length
 ·rw[wF (by simp;omega),wF (by omega)];rfl
 ·rw[wI (by simp;omega),wI (by omega)]
theorem SD{i:Int}{n:Nat}(h0:0≤i)(h:i≤n):to? i n=some i.toNat:=by rw[to_eq,wF ⟨h0,h⟩]
theorem toNat_cast(n:Nat):((n:Int)).toNat=n:=waD n
def Heap.Ak(H:Heap)(r g z:Nat)(cells:List Value):Heap:={objs:=H.objs.set r (.row cells (some (g,z)) true),grps:=H.grps.set g [],next:=H.next,lo:=H.lo}
section
variable{H:Heap}
theorem KP(r g z:Nat)(c:List Value)(x:Nat):(H.Ak r g z c).objs.get x=bif x==r then some (.row c (some (g,z)) true)else H.objs.get x:=by
 show(if x=r then some _ else H.objs x)=_
 by_cases h:x=r
 ·simp[h]
 ·rw[wI h,au h];rfl
theorem SE(r g z:Nat)(c:List Value)(x:Nat):(H.Ak r g z c).grps.get x=bif x==g then some []else H.grps.get x:=by
 show(if x=g then some _ else H.grps x)=_
 by_cases h:x=g
 ·simp[h]
 ·rw[wI h,au h];rfl
def xY(H:Heap)(r o:Nat)(new:List Value)(cells:List Value)(g z:Nat):Option (List Nat)→Option Heap
 |some []=>bif decide (H.lo≤r)&&new.all isCell&&decide (o+new.length≤cells.length)then some (H.Ak r g z (over new o cells))else none
 |_=>H.xZ r o new
def FP(H:Heap)(r o:Nat)(new:List Value):Option AObj→Option Heap
 |some (.row cells (some (g,z)) true)=>xY H r o new cells g z (H.grps.get g)
 |_=>H.xZ r o new
theorem CT(r o:Nat)(new cells:List Value)(g z:Nat):FP H r o new (some (.row cells (some (g,z)) true))=xY H r o new cells g z (H.grps.get g):=wE rfl rfl
theorem CU(r o:Nat)(new:List Value):H.xZ r o new=FP H r o new (H.objs.get r):=by
 unfold FP
 split
 ·rename_i cells g z h
  unfold xY
  split
  ·rename_i hg
   unfold Heap.xZ Heap.write
   simp only[h,hg,tz,wo,Tr.force_eq,cw]
   by_cases h1:H.lo≤r<;>by_cases h2:new.all isCell=true<;>by_cases h3:o+new.length≤cells.length<;>simp[h1,h2,h3,Heap.Ak]
  ·rfl
 ·rfl
theorem KQ(x:Value)(k:Nat)(l:List Value)(h:k<l.length):over [x] k l=l.set k x:=by
 rw[tA _ _ _ (by simpa using(show k+1≤l.length from h))]
 simp only[wbJ]
 rw[List.set_eq_take_append_cons_drop,wF h]
 simp
end
def CV(E:Env)(v:Value):Option Value:=
 match v with
 | .pointer (some _)=>some v
 | .func (.func _) _ _=>some v
 | .func (.yield _) _ _=>some v
 | .func (.via ..) _ _=>some v
 | .func (.method name) first _=>(match first.toList with
   |x::_=>(methodOf E x name).bind fun _=>some v
   |[]=>none)
 | .iface _ _=>some v
 |_=>none
section
variable{E:Env}{T:Tr Value}{H:Heap}{K:Tok→Value→Heap→Prop}
theorem SF(x:Operand):OP .go E T (.nilCheck x) H K=optP .go (ev T x) fun t v=>optP t (CV E v) fun t v=>K t v H:=by
 have e:∀ v:Value,(match v with
  | .pointer (some _)=>some (v,H)
  | .func (.func _) _ _=>some (v,H)
  | .func (.yield _) _ _=>some (v,H)
  | .func (.via ..) _ _=>some (v,H)
  | .func (.method name) first _=>(match first.toList with
    |x::_=>(methodOf E x name).bind fun _=>some (v,H)
    |[]=>none)
  | .iface _ _=>some (v,H)
  |_=>none)=(CV E v).bind fun v=>some (v,H):=fun v=>by
  unfold CV
  split<;>first|rfl|(split<;>first|rfl|(simp only[Option.bind_assoc];rfl))
 rw[fO fun _=>rfl];simp only[exOp,fb,optP]
 congr 1
 funext v
 congr 1
 exact(congrArg (fun o=>resP .go o K) (e v)).trans (by rw[fb];simp only[fP,optP])
theorem SG(r o:Nat):CV E (ptr r o)=some (ptr r o):=wE rfl rfl
theorem KR(ty:TypeId)(x i:Operand)(ok:Bool):OP .go E T (.lookup ty x i ok) H K=optP .go (ev T x) fun t x=>optP t (ev T i) fun t i=>optP t (lookupV E H ty x i ok) fun t v=>K t v H:=by
 rw[fO fun _=>rfl];simp only[exOp,fb,fP,optP]
theorem SH(ty:TypeId)(m k x:Operand):OP .go E T (.mapUpdate ty m k x) H K=optP .go (ev T m) fun t m=>optP t (ev T k) fun t k=>optP t (ev T x) fun t x=>optP t (mapUpdateV E H ty m k x) fun t H'=>K t undef H':=by
 rw[fO fun _=>rfl];simp only[exOp,fb,fP,optP]
theorem SI(ty:TypeId):OP .go E T (.makeMap ty none) H K=K .go (.map (some H.next)) (H.add (.map [])):=by
 rw[fO fun _=>rfl];simp only[exOp,fP]
theorem SJ(t:TypeId)(x y:Operand)(r o:Nat):binV E .eql t x y (ptr r o) (.pointer none)=(eqV E (99+1) t (ptr r o) (.pointer none)).bind fun r=>some (.bool r):=wE rfl rfl
end
theorem SK(a0 a1 a2 a3 a4 a5 a6 a7:Value):Tr.of [a0,a1,a2,a3,a4,a5,a6,a7]=((((((((Tr.nil.set 0 a0).set 1 a1).set 2 a2).set 3 a3).set 4 a4).set 5 a5).set 6 a6).set 7 a7):=wE rfl rfl
def rJ(z:Nat)(ob:Option AObj)(r o:Nat)(b:Nat×Nat×Nat)(full:Bool):Option Value:=
 match ob with
 |some (.row _ none _)=>some (.slice (some ⟨r,bif Nat.beq b.2.2 b.1 then o else o+b.1*z,none⟩) (b.2.1-b.1) (b.2.2-b.1))
 |some (.row _ (some (_,z')) _)=>bif Nat.beq z' z then some (.slice (some ⟨r,bif full&&Nat.beq b.2.2 b.1 then o else o+b.1*z,none⟩) (b.2.1-b.1) (b.2.2-b.1))else none
 |_=>none
def CW(E:Env)(H:Heap)(z r o n c:Nat)(lo hi mx:Option Value):Option Value:=bif !Nat.ble n c then none else(bounds n c lo hi mx).bind fun b=>rJ z (H.objs.get r) r o b mx.isSome
section
variable{E:Env}{T:Tr Value}{H:Heap}
theorem SM(z r o n c:Nat)(lo hi mx:Option Value)(h:n≤c):CW E H z r o n c lo hi mx=(bounds n c lo hi mx).bind fun b=>rJ z (H.objs.get r) r o b mx.isSome:=by
 unfold CW;rw[wP h];rfl
theorem CX(z:Nat)(cs:List Value)(t:Bool)(r o l h m:Nat)(full:Bool):rJ z (some (.row cs none t)) r o (l,h,m) full=some (.slice (some ⟨r,if m=l then o else o+l*z,none⟩) (h-l) (m-l)):=by
 simp only[rJ,kV];by_cases e:m=l<;>simp[e]
theorem FQ(z g:Nat)(cs:List Value)(t:Bool)(r o l h m:Nat):rJ z (some (.row cs (some (g,z)) t)) r o (l,h,m) false=some (.slice (some ⟨r,o+l*z,none⟩) (h-l) (m-l)):=by
 simp only[rJ,kV];simp
theorem SN(len cap:Nat)(k k':IntKind)(a b:Int):bounds len cap (some (.int k a)) (some (.int k' b)) none=(to? b cap).bind fun h=>(to? a h).bind fun l=>some (l,h,cap):=wE rfl rfl
theorem SO(len cap:Nat)(k:IntKind)(a:Int):bounds len cap (some (.int k a)) none none=(to? a len).bind fun l=>some (l,len,cap):=wE rfl rfl
theorem SP(len cap:Nat)(k:IntKind)(b:Int):bounds len cap none (some (.int k b)) none=(to? b cap).bind fun h=>some (0,h,cap):=wE rfl rfl
theorem SQ:evO T none=some none:=wE rfl rfl
theorem SR(x:Operand):evO T (some x)=(ev T x).bind fun v=>some (some v):=wE rfl rfl
end
def SS:=And.intro (And.intro @SF @KR) (And.intro @SH @SI)
def sb:=And.intro (And.intro (And.intro (And.intro @FR @KS) (And.intro @SK @SM)) (And.intro (And.intro @SN @SO) (And.intro @SP @SQ))) (And.intro (And.intro (And.intro @SR @SG) (And.intro @SJ @SU)) (And.intro (And.intro @SV @SW) (And.intro @SX (And.intro @CT @CU))))
def sa:=And.intro (And.intro @waY (And.intro @SA @SB)) (And.intro (And.intro @SC @SY) (And.intro @SD @toNat_cast))
def sm:=And.intro (And.intro (And.intro (And.intro @ay @aN) (And.intro @az @aF)) (And.intro (And.intro @aE @aB) (And.intro @aQ @aP))) (And.intro (And.intro (And.intro @aL @aD) (And.intro @aH @KT)) (And.intro (And.intro @aM @aO) (And.intro @CY @au)))
section
variable[Maps]{E:Env}{sz:Nat}
def yz(E:Env)(sz:Nat)(v:Value)(c:Code)(T:Tr Value)(mk:List Nat)(ro:Option Nat)(H:Heap)(Q:Ex→Tr Value→List Nat→Heap→Prop):Prop:=
 ∃n ex T' br H',runHead E (run E n) v c {T,size:=sz,marks:=mk,round:=ro} H=some (ex,{T:=T',size:=sz,marks:=br,round:=ro},H')∧Q ex T' br H'
theorem MN{v:Value}{a b:Code}{T:Tr Value}{mk:List Nat}{ro:Option Nat}{H:Heap}{Q:Ex→Tr Value→List Nat→Heap→Prop}
  (h:yz E sz v a T mk ro H fun ex T' br H'=>sg .go ex (fun t=>wp t E sz b pf T' br ro H' fun _=>Q) fun _ e=>Q e T' br H'):yz E sz v (.seq a b) T mk ro H Q:=by
 obtain⟨n,ex,T',br,H',h1,h2⟩:=h
 cases ex with
 |normal=>
  obtain⟨n2,ua,T2,yo,H2,h3,h4⟩:=yq b (show wp .go E sz b pf T' br ro H' (fun _=>Q)from h2)
  refine⟨max n n2,ua,T2,yo,H2,?_,h4⟩
  simp only[runHead,vA (kg (wbP n n2)) _ h1,wo]
  exact kg (wbE n n2) _ _ _ _ h3
 |ret=>exact⟨n,.ret,T',br,H',by simp only[runHead,h1,wo],h2⟩
 |exit id=>exact⟨n,.exit id,T',br,H',by simp only[runHead,h1,wo],h2⟩
theorem MO{v:Value}{id:Nat}{ops:Array Oper}{o:Oper}{rest:List Oper}(ho:ops.toList=o::rest){T:Tr Value}{mk:List Nat}{ro:Option Nat}{H:Heap}{Q:Ex→Tr Value→List Nat→Heap→Prop}
  (h:jg .go sz T o.dst v fun _ T'=>wpOps .go E ops.toList pf sz rest pf T' H fun _ Hi H'=>Q .normal Hi mk H'):yz E sz v (.region id ops false) T mk ro H Q:=by
 have key:∀ T',(wpOps .go E ops.toList pf sz rest pf T' H fun _ Hi H'=>Q .normal Hi mk H')→gQ sz T o.dst v=some T'→yz E sz v (.region id ops false) T mk ro H Q:=by
  intro T' hw hp
  obtain⟨n,T2,H2,h1,h2⟩:=DL hw
  refine⟨n,.normal,T2,mk,H2,?_,h2⟩
  simp only[runHead,ho,hp,wo]
  rw[←ho,h1];rfl
 unfold jg at h
 cases hd:o.dst with
 |none=>rw[hd]at h;exact key T h (by simp[gQ,hd])
 |some d=>
  rw[hd]at h
  have hb:Nat.blt d sz=true:=wP h.1
  exact key _ h.2 (by simp[gQ,hd,hb,Tr.force_eq])
end
attribute [local instance] fnMaps
variable{E:Env}{sz:Nat}
theorem AV(t:Tmp):∀ (l:List Tmp) (T:Tr Value),(dropAll l T).get t=bif l.contains t then none else T.get t
 |[],T=>rfl
 |x::l,T=>by
  have h1:(dropAll (x::l) T).get t=bif l.contains t then none else(T.del x).get t:=AV t l (T.del x)
  have h2:(T.del x).get t=if t=x then none else T.get t:=rfl
  rw[h1,h2,List.contains_cons]
  cases l.contains t
  ·by_cases e:t=x
   ·simp[e]
   ·have:(t==x)=false:=by simpa using e
    rw[wI e,this];rfl
  ·simp
theorem MP{t:Tmp}{v:Value}:∀ {l:List (Tmp×Value)} {T:Tr Value},(∀u,(t,u)∈l→u=v)→((t,v)∈l∨T.get t=some v)→(uS l T).get t=some v
 |[],T,_,h=>by rcases h with h|h;· simp at h
               ·exact h
 |p::l,T,hu,h=>by
  have e:(T.set p.1 p.2).get t=if t=p.1 then some p.2 else T.get t:=rfl
  refine MP (l:=l) (T:=T.set p.1 p.2) (fun u hm=>hu u (wM _ hm)) ?_
  rw[e]
  by_cases h1:t=p.1
  ·have:p.2=v:=hu p.2 (by rw[h1];exact wW ..)
   rw[wF h1,this];exact .inr rfl
  ·rw[wI h1]
   rcases h with h|h
   ·rcases wad.1 h with h|h
    ·rw[←h]at h1;exact absurd rfl h1
    ·exact .inl h
   ·exact .inr h
theorem MQ{t:Tmp}:∀ {l:List (Tmp×Value)} {T:Tr Value},(∀p∈l,p.1≠t)→(uS l T).get t=T.get t
 |[],T,_=>rfl
 |p::l,T,h=>by
  have e:(T.set p.1 p.2).get t=if t=p.1 then some p.2 else T.get t:=rfl
  refine(MQ (l:=l) (T:=T.set p.1 p.2) fun q hq=>h q (wM _ hq)).trans ?_
  rw[e,wI (wbl (h p (wW ..)))]
theorem MR{T:Tr Value}{d:Tmp}{u:Value}(hT:T.get d=some u)(hu:plain1 u=true):∀ {l:List Tmp},d∈l→(d,u)∈rP T l
 |x::l,h=>by
  unfold rP
  rcases wad.1 h with rfl|h
  ·rw[hT];simp only[hu,wai];exact wW ..
  ·have:=MR hT hu h
   split
   ·rename_i v _;cases plain1 v<;>first|exact this|exact wM _ this
   ·exact this
theorem MS:∀ l:List Nat,eqNats l l=true
 |[]=>rfl
 |x::l=>by simp[eqNats,MS l]
theorem Vx{u:Value}(hu:plain1 u=true):same1 u u=true:=by
 cases u with
 |bool b=>cases b<;>rfl
 |int k n=>simp[same1,lQ,gF]
 |string s=>simp[same1,mJ]
 |pointer a=>cases a<;>simp[plain1]at hu<;>rfl
 |slice a l c=>cases a<;>simp[plain1]at hu<;>simp[same1]
 |map a=>cases a<;>simp[plain1]at hu<;>rfl
 |nilFunc=>rfl
 |nilIface=>rfl
 |_=>simp[plain1]at hu
theorem MT{T:Tr Value}{d:Tmp}{u:Value}(hT:T.get d=some u)(hu:plain1 u=true):∀ {l:List (Tmp×Value)},(d,u)∈l→(d,u)∈alsoIn T l
 |p::l,h=>by
  unfold alsoIn
  rcases wad.1 h with rfl|h
  ·simp only[hT,Vx hu,wai];exact wW ..
  ·have:=MT hT hu h
   split
   ·rename_i v _;cases same1 p.2 v<;>first|exact this|exact wM _ this
   ·exact this
def Round(E:Env)(sz:Nat)(c:Code)(T0:Tr Value)(mk:List Nat)(ro:Option Nat)(H:Heap)(r:Nat)(rm n i:Nat)(e:Value×Value)(d:Tmp)(u:Value)(bad:Bool):Prop:=
 yz E sz (.tuple #[.bool true,e.1,e.2]) c T0 mk ro {objs:=(H.setObj r (.iter (some rm) n (.told i))).objs,grps:=H.grps,next:=H.next,lo:=H.next} fun ex T' br _=>br=mk∧(if bad then ex= .ret∧T'.get d=some u else ex= .normal)
theorem MU{c:Code}{T0:Tr Value}{mk:List Nat}{ro:Option Nat}{H:Heap}{r rm n:Nat}{d:Tmp}{u:Value}(hd:d∈writesOf c)(hu:plain1 u=true)(bad:Value×Value→Bool):∀ (es:List (Value×Value)) (i:Nat) (acc:Option (List (Tmp×Value))),
  (∀k e,es[k]? =some e→Round E sz c T0 mk ro H r rm n (i+k) e d u (bad e))→(∀l,acc=some l→(d,u)∈l)→
  ∃N o,roundsV E (run E N) c {T:=T0,size:=sz,marks:=mk,round:=ro} H r (some rm) n es i acc=some o∧(∀vs,o=some vs→(d,u)∈vs)∧(o=none↔acc=none∧∀ e∈es,bad e=false)
 |[],i,acc,_,ha=>⟨0,acc,rfl,ha,by simp⟩
 |x::es,i,acc,hr,ha=>by
  obtain⟨n1,ex,T',br,H',h1,rfl,h2⟩:=hr 0 x rfl
  rw[waX]at h1
  have cp:∀ k e,es[k]? =some e→Round E sz c T0 br ro H r rm n (i+1+k) e d u (bad e):=fun k e he=>by
   have:=hr (k+1) e (by simpa using he)
   rwa [show i+(k+1)=i+1+k by omega]at this
  have hk:(eqNats br br&&Nat.beq sz sz)=true:=by
   simp[MS]
  have step:∀ AW,(∀l,AW=some l→(d,u)∈l)→(∀N,n1≤N→roundsV E (run E N) c {T:=T0,size:=sz,marks:=br,round:=ro} H r (some rm) n (x::es) i acc=roundsV E (run E N) c {T:=T0,size:=sz,marks:=br,round:=ro} H r (some rm) n es (i+1) AW)→
    (AW=none↔acc=none∧bad x=false)→∃ N o,roundsV E (run E N) c {T:=T0,size:=sz,marks:=br,round:=ro} H r (some rm) n (x::es) i acc=some o∧(∀vs,o=some vs→(d,u)∈vs)∧(o=none↔acc=none∧∀ e∈x::es,bad e=false):=by
   intro AW pn he hb
   obtain⟨n2,o,h3,h4,h5⟩:=MU hd hu bad es (i+1) AW cp pn
   refine⟨max n1 n2,o,?_,h4,?_⟩
   ·rw[he _ (wbP n1 n2)]
    exact AY (kg (wbE n1 n2)) h3
   ·rw[h5,hb]
    simp only[wad,forall_eq_or_imp,and_assoc]
  cases iV:bad x with
  |false=>
   rw[iV]at h2
   have h2:ex= .normal:=h2
   subst h2
   refine step acc ha (fun N hN=>?_) (by simp[iV])
   have:=vA (kg (E:=E) hN) _ h1
   simp only[roundsV,this,hk,wai]
  |true=>
   rw[iV]at h2
   obtain⟨h2,hT⟩:ex= .ret∧T'.get d=some u:=h2
   subst h2
   refine step (some (accRet T' (writesOf c) acc)) (fun l hl=>?_) (fun N hN=>?_) (by simp[iV])
   ·simp only[wi]at hl
    subst hl
    cases acc with
    |none=>exact MR hT hu hd
    |some l=>exact MT hT hu (ha l rfl)
   ·have:=vA (kg (E:=E) hN) _ h1
    simp only[roundsV,this,hk,wai]
theorem Vy{c:Code}{it:Operand}(hh:headNext c=some it){T:Tr Value}{mk:List Nat}{ro:Option Nat}{H:Heap}{Q:Ex→Tr Value→List Nat→Heap→Prop}{r rm:Nat}{es:List (Value×Value)}(d:Tmp)(u:Value)(bad:Value×Value→Bool)
  (hd:d∈writesOf c) (hu:plain1 u=true) (AU:ev (dropAll (writesOf c) T) it=some (ptr r 0)) (hT:ev T it=some (ptr r 0)) (ho:H.objs.get r=some (.iter (some rm) es.length .start)) (hm:H.objs.get rm=some (.map es)) (an:H.lo≤r)
  (rounds:∀ i e,es[i]? =some e→Round E sz c (dropAll (writesOf c) T) mk ro H r rm es.length i e d u (bad e))
  (fin:(∀e∈es,bad e=false)→yz E sz (.tuple #[.bool false]) c (dropAll (writesOf c) T) mk ro {objs:=H.objs.del r,grps:=H.grps,next:=H.next,lo:=H.lo} fun ex T' br H'=>ex≠ .normal∧Q ex T' br H')
  (ret:(∃e∈es,bad e=true)→∀ T',T'.get d=some u→(∀t,t∉writesOf c→T'.get t=T.get t)→Q .ret T' mk {objs:=H.objs.del r,grps:=H.grps,next:=H.next,lo:=H.lo}):gi E sz (.loop c) T mk ro H Q:=by
 obtain⟨N,o,h1,h2,h3⟩:=MU (E:=E) (sz:=sz) hd hu bad es 0 none (fun k e he=>by rw[wau];exact rounds k e he) (fun l hl=>by cases hl)
 have pD:=(AR h1 fun l hl=>by cases hl).2.1
 have si:x8 T H it=false:=by
  unfold x8
  rw[hT]
  simp only[ptr,ho]
 have hg:(!Nat.beq es.length es.length|| !Nat.ble H.lo r)=false:=by simp[wP an]
 have MV:∀ n,run E (n+1) (.loop c) {T,size:=sz,marks:=mk,round:=ro} H=(roundsV E (run E n) c {T:=dropAll (writesOf c) T,size:=sz,marks:=mk,round:=ro} H r (some rm) es.length es 0 none).bind fun o=>
   match o with
   |none=>(runHead E (run E n) (.tuple #[.bool false]) c {T:=dropAll (writesOf c) T,size:=sz,marks:=mk,round:=ro} {objs:=H.objs.del r,grps:=H.grps,next:=H.next,lo:=H.lo}).bind fun r=>
    match r.1 with
    | .normal=>none
    |e=>some (e,r.2)
   |some vs=>some (.ret,{T:=uS vs (dropAll (writesOf c) T),size:=sz,marks:=mk,round:=ro},{objs:=H.objs.del r,grps:=H.grps,next:=H.next,lo:=H.lo}):=by
  intro n
  simp only[run,runWith,hh,si,wS,mapLoop,Tr.force_eq,AU,wo,ptr,ho,entriesOf,hm,hg]
  rfl
 cases o with
 |none=>
  obtain⟨n2,ex,T',br,H',h4,h5,h6⟩:=fin (h3.1 rfl).2
  refine⟨max N n2+1,ex,T',br,H',?_,h6⟩
  have h7:=vA (kg (E:=E) (wbE N n2)) _ h4
  rw[MV,AY (kg (wbP N n2)) h1,wo]
  cases ex with
  |normal=>exact absurd rfl h5
  |_=>simp only[h7,wo]
 |some vs=>
  refine⟨N+1,.ret,uS vs (dropAll (writesOf c) T),mk,_,by rw[MV,h1];rfl,ret ?_ _ ?_ fun t ht=>?_⟩
  ·refine wbK fun hn=>?_
   have:(some vs:Option (List (Tmp×Value)))=none:=h3.2 ⟨rfl,fun e he=>by
    cases hb:bad e with
    |false=>rfl
    |true=>exact absurd ⟨e,he,hb⟩ hn⟩
   cases this
  ·refine MP (fun u' Gx=>?_) (.inl (h2 vs rfl))
   obtain⟨_,MG,Hb,AS⟩:=AR h1 fun l hl=>by cases hl
   obtain⟨k,e,sj,hk,H1,gS,_⟩:=AS rfl vs rfl
   obtain⟨ex,nR,⟨H2,cq,_⟩,pw⟩:=Hb k e hk
   rw[gS]at cq
   cases cq
   rcases pw with h|⟨_,fe,lP,cF⟩
   ·cases h
   ·cases lP
    have e1:=cF _ Gx
    have e2:=cF _ (h2 vs rfl)
    simp only at e1 e2
    rw[e1]at e2
    simpa using e2
  ·rw[MQ fun p hp (h:p.1=t)=>ht (by rw[←h];exact(pD vs rfl p hp).2),AV]
   have:(writesOf c).contains t=false:=by simpa using ht
   rw[this];rfl
end Go.AM
namespace Go.AM
section
attribute [local instance] fnMaps
variable{E:Env}{sz:Nat}
structure Yd(B:Nat)(ex:List Nat)(X X':Heap):Prop where
 lo:X'.lo=X.lo
 ag:X.next≤X'.next
 below:∀ x,x<B→x∉ex→X'.objs.get x=X.objs.get x
 grps:∀ x,x<B→X'.grps.get x=X.grps.get x
 alone:∀ x c t,x<X.next→x∉ex→X.objs.get x=some (.row c none t)→X'.objs.get x=some (.row c none t)
 cells:∀ x c g t,x<X.next→x∉ex→X.objs.get x=some (.row c g t)→∃ t',X'.objs.get x=some (.row c g t')
structure Pd(B:Nat)(X X':Heap):Prop where
 lo:X'.lo=X.lo
 ag:X.next≤X'.next
 objs:∀ x,x<B→X'.objs.get x=X.objs.get x
 grps:∀ x,x<X.next→X'.grps.get x=X.grps.get x
 bK:∀ x c g t,x<X.next→X.objs.get x=some (.row c (some g) t)→X'.objs.get x=some (.row c (some g) t)
theorem Yd.refl(B:Nat)(ex:List Nat)(X:Heap):Yd B ex X X:=⟨rfl,wy _,fun _ _ _=>rfl,fun _ _=>rfl,fun _ _ _ _ _ h=>h,fun _ _ _ t _ _ h=>⟨t,h⟩⟩
theorem Yd.trans{B:Nat}{ex:List Nat}{X Y Z:Heap}(h:Yd B ex X Y)(h':Yd B ex Y Z):Yd B ex X Z:=
 ⟨h'.lo.trans h.lo,wK h.ag h'.ag,fun x hx he=>(h'.below x hx he).trans (h.below x hx he),fun x hx=>(h'.grps x hx).trans (h.grps x hx),fun x c t hx he ho=>h'.alone x c t (wq hx h.ag) he (h.alone x c t hx he ho),
  fun x c g t hx he ho=>(h.cells x c g t hx he ho).elim fun t' h1=>h'.cells x c g t' (wq hx h.ag) he h1⟩
theorem aq.yd{B:Nat}{ex:List Nat}{X Y:Heap}(h:aq X Y)(hB:B≤X.next):Yd B ex X Y:=
 ⟨h.lo,h.ag,fun x hx _=>h.objs x (by omega),fun x hx=>h.grps x (by omega),fun x c t hx _ ho=>(h.objs x hx).trans ho,fun x c g t hx _ ho=>⟨t,(h.objs x hx).trans ho⟩⟩
theorem Yd.setRow{B:Nat}{ex:List Nat}{X Y:Heap}(h:Yd B ex X Y){r:Nat}(hr:r∈ex)(c:List Value):Yd B ex X (Y.setRow r c):=by
 have aX:∀ x,x∉ex→x≠r:=fun x hx e=>hx (e▸hr)
 exact⟨by rw[aB];exact h.lo,by rw[aF];exact h.ag,fun x hx he=>by rw[ay,au (aX x he)];exact h.below x hx he,fun x hx=>by rw[aO];exact h.grps x hx,fun x c t hx he ho=>by rw[ay,au (aX x he)];exact h.alone x c t hx he ho,fun x c g t hx he ho=>by rw[ay,au (aX x he)];exact h.cells x c g t hx he ho⟩
theorem Yd.lu{B l:Nat}{ex:List Nat}{X Y:Heap}(h:Yd B ex X Y)(hl:l∈ex)(o:AObj):Yd B ex X (Y.setObj l o):=by
 have aX:∀ x,x∉ex→x≠l:=fun x hx e=>hx (e▸hl)
 exact⟨by rw[yl];exact h.lo,by rw[px];exact h.ag,fun x hx he=>by rw[iU,au (aX x he)];exact h.below x hx he,fun x hx=>by rw[yn];exact h.grps x hx,fun x c t hx he ho=>by rw[iU,au (aX x he)];exact h.alone x c t hx he ho,fun x c g t hx he ho=>by rw[iU,au (aX x he)];exact h.cells x c g t hx he ho⟩
theorem Yd.more{B:Nat}{ex L9:List Nat}{X Y:Heap}(h:Yd B ex X Y)(hs:∀ x∈ex,x∈L9):Yd B L9 X Y:=
 ⟨h.lo,h.ag,fun x hx he=>h.below x hx fun hh=>he (hs x hh),h.grps,fun x c t hx he=>h.alone x c t hx fun hh=>he (hs x hh),fun x c g t hx he=>h.cells x c g t hx fun hh=>he (hs x hh)⟩
theorem Yd.grown{B b:Nat}{ex:List Nat}{X Y Z:Heap}(h:Yd B ex X Y)(g:Grown b Y Z)(hb:B≤b):Yd B ex X Z:=
 h.trans ⟨g.lo,g.ag,fun x hx _=>(g.below x (by omega)).1,fun x hx=>(g.below x (by omega)).2,fun x c t hx _ ho=>g.alone x c t hx ho,fun x c gg t hx _ ho=>g.cells x c gg t hx ho⟩
theorem Pd.trans{B:Nat}{X Y Z:Heap}(h:Pd B X Y)(h':Pd B Y Z):Pd B X Z:=
 ⟨h'.lo.trans h.lo,wK h.ag h'.ag,fun x hx=>(h'.objs x hx).trans (h.objs x hx),fun x hx=>(h'.grps x (wq hx h.ag)).trans (h.grps x hx),fun x c g t hx ho=>h'.bK x c g t (wq hx h.ag) (h.bK x c g t hx ho)⟩
theorem aq.pd{B:Nat}{X Y:Heap}(h:aq X Y)(hB:B≤X.next):Pd B X Y:=
 ⟨h.lo,h.ag,fun x hx=>h.objs x (by omega),h.grps,fun x c g t hx ho=>(h.objs x hx).trans ho⟩
theorem Pd.setRow{B:Nat}{X Y:Heap}(h:Pd B X Y){r:Nat}(hr:B≤r)(ha:∃ c0 t0,Y.objs.get r=some (.row c0 none t0))(c:List Value):Pd B X (Y.setRow r c):=by
 refine h.trans ⟨rfl,wy _,fun x hx=>by rw[ay,au (by omega)];rfl,fun x _=>by rw[aO],fun x c1 g t hx ho=>?_⟩
 have:x≠r:=fun e=>by subst e;obtain⟨c0,t0,h0⟩:=ha;rw[h0]at ho;cases ho
 rw[ay,au this];exact ho
def je(b:Nat)(v:Value):Prop:=∀ a n c,v= .slice a n c→a=none∨∃ r,a=some ⟨r,0,none⟩∧b≤r
theorem je.nil(b n c:Nat):je b (.slice none n c):=fun a _ _ e=>by cases e;exact .inl rfl
theorem je.mk(b r n c:Nat)(h:b≤r):je b (.slice (some ⟨r,0,none⟩) n c):=fun a _ _ e=>by cases e;exact .inr ⟨r,rfl,h⟩
theorem je.le{b b':Nat}{v:Value}(h:je b v)(hb:b'≤b):je b' v:=fun a n c e=>(h a n c e).elim .inl fun⟨r,h1,h2⟩=> .inr ⟨r,h1,by omega⟩
theorem SL.yd{α:Type}{R:Heap→List Value→α→Prop}(hR:∀ X X' part x,R X part x→R X' part x){z B:Nat}{ex:List Nat}{X X':Heap}{v:Value}{l:List α}(h:SL R z X v l)(hf:je B v)(hex:∀ x:Nat,x∈ex→x<B)(y:Yd B ex X X'):SL R z X' v l:=by
 obtain⟨a,cap,rfl,hc,hl⟩:=h
 refine⟨a,cap,rfl,hc,fun i x hx=>?_⟩
 obtain⟨r,o,cells,g,t,part,rfl,h1,h2,h3,h4⟩:=hl i x hx
 rcases hf _ _ _ rfl with hn|⟨r',hr,hb⟩
 ·cases hn
 ·cases hr
  obtain⟨t',h5⟩:=y.cells r cells g t h1 (fun hh=>by have:=hex r hh;omega) h2
  exact⟨r,0,cells,g,t',part,rfl,wq h1 y.ag,h5,h3,hR _ _ _ _ h4⟩
structure fV(H:Heap)(ex:List Nat)(X:Heap):Prop where
 lo:X.lo=H.lo
 ag:H.next+2≤X.next
 vq:X.objs.get H.next=some .defers
 objs:∀ x,x<H.next→x∉ex→X.objs.get x=H.objs.get x
 grps:∀ x,x<H.next→X.grps.get x=H.grps.get x
theorem fV.pd{H:Heap}{ex:List Nat}{X X':Heap}(h:fV H ex X)(p:Pd (H.next+2) X X'):fV H ex X':=
 ⟨p.lo.trans h.lo,wK h.ag p.ag,(p.objs _ (by omega)).trans h.vq,fun x hx he=>(p.objs x (by omega)).trans (h.objs x hx he),fun x hx=>(p.grps x (by have:=h.ag;omega)).trans (h.grps x hx)⟩
theorem fV.yd{H:Heap}{ex:List Nat}{X X':Heap}(h:fV H ex X)(hex:∀ x∈ex,x<H.next)(p:Yd (H.next+2) ex X X'):fV H ex X':=
 ⟨p.lo.trans h.lo,wK h.ag p.ag,(p.below _ (by omega) fun hh=>by have:=hex _ hh;omega).trans h.vq,fun x hx he=>(p.below x (by omega) he).trans (h.objs x hx he),fun x hx=>(p.grps x (by omega)).trans (h.grps x hx)⟩
theorem fV.lu{H:Heap}{ex:List Nat}{X:Heap}(h:fV H ex X)(o:AObj):fV H ex (X.setObj (H.next+1) o):=
 ⟨by rw[yl];exact h.lo,by rw[px];exact h.ag,by rw[iU,au (by omega)];exact h.vq,fun x hx he=>by rw[iU,au (by omega)];exact h.objs x hx he,fun x hx=>by rw[yn];exact h.grps x hx⟩
structure py(l:Nat)(X X':Heap):Prop where
 lo:X'.lo=X.lo
 next:X'.next=X.next
 objs:∀ x,x≠l→X'.objs.get x=X.objs.get x
 grps:∀ x,X'.grps.get x=X.grps.get x
theorem py.lu(l:Nat)(X:Heap)(o:AObj):py l X (X.setObj l o):=⟨yl ..,px ..,fun x hx=>by rw[iU,au hx];rfl,fun x=>by rw[yn]⟩
theorem US{l s:Nat}{fK:Option Code}{T0 T:Tr Value}{ps:List Tmp}{as bo:Code}{de:Nat}{args:List Value}{H:Heap}{K:Value→Heap→Prop}
  (ho:E.orc (.func (.yield l) #[] #[]) args H=none) (hg:H.objs.get l=some (.loop .ready fK s T0 ps as bo de)) (hl:H.lo≤l) (hp:paramsT s ps args T0=some T)
  (h:gi E s as T [] (some l) H fun ex T' br H'=>ex= .normal∧∃ H1,H'.setLoop l true .busy none=some H1∧gi E s bo T' br (some l) H1 fun ex _ _ H2=>UT l H2 K ex):
  af E (.func (.yield l) #[] #[]) args H K:=by
 obtain⟨n1,ex1,T1,GK,H1,r1,rfl,H1',b1,h⟩:=h
 obtain⟨n2,ua,T2,yo,H2,r2,h⟩:=h
 have Ma:=kg (wbP n1 n2) _ _ _ _ r1
 have Mb:=kg (wbE n1 n2) _ _ _ _ r2
 have fL:Nat.ble H.lo l=true:=by simpa using hl
 refine⟨max n1 n2,?_⟩
 unfold fQ
 rw[ho]
 cases ua with
 |exit i=>exact h.elim
 |normal=>
  obtain⟨H3,b3,k⟩:=h
  refine⟨_,H3,?_,k⟩
  simp only[callBody,target,wo,hg,fL,wa7,wS,wL,Array.toList_empty,hp,Ma,b1,Mb,b3]
 |ret=>
  obtain⟨H3,b3,k⟩:=h
  refine⟨_,H3,?_,k⟩
  simp only[callBody,target,wo,hg,fL,wa7,wS,wL,Array.toList_empty,hp,Ma,b1,Mb,b3]
theorem Du{α:Type}{f:Operand}{p:Tmp}{as bo:Code}{T:Tr Value}{mk:List Nat}{H:Heap}{Q:Ex→Tr Value→List Nat→Heap→Prop}{g:FuncId}{first cap:Array Value}
  (enc:α→Value) (xs:List α) (J:List α→Heap→Prop) (R:Heap→Prop) (ex:List Nat) (hex:∀ x:Nat,x∈ex→x<H.next) (an:H.lo≤H.next)
  (h0:ev T f=some (.func (.func g) first cap)) (hp:p<sz)
  (ho:∀ a X,E.orc (.func (.func g) first cap) [a] X=none) (UU:∀ l a X,E.orc (.func (.yield l) #[] #[]) [a] X=none)
  (UW:∀ rest X X',J rest X→fV H ex X→Pd (H.next+2) X X'→J rest X') (Mc:∀ rest X X',J rest X→py (H.next+1) X X'→J rest X') (Md:∀ X X',R X→py (H.next+1) X X'→R X')
  (h1:∀ X,fV H ex X→aq H X→J xs X)
  (iter:∀ (y:Value) (I:List α→Heap→Prop) (F:Heap→Prop) (H1:Heap),aq H H1→H1.next=H.next+2→(∀rest X X',I rest X→Pd (H.next+2) X X'→I rest X')→(∀rest X,I rest X→fV H ex X)→
   (∀v rest X,I (v::rest) X→af E y [enc v] X fun r X'=>(r= .bool true∧I rest X'∧Yd (H.next+2) ((H.next+1)::ex) X X')∨(r= .bool false∧F X'))→I xs H1→af E (.func (.func g) first cap) [y] H1 fun _ X=>I [] X∨F X)
  (body:∀ v rest X,J (v::rest) X→fV H ex X→wp .go E sz as pf (T.set p (enc v)) [] (some (H.next+1)) X fun _ e T1 GK X1=>e= .normal∧GK=[]∧aq X X1∧∀ X2,py (H.next+1) X1 X2→wp .go E sz bo pf T1 [] (some (H.next+1)) X2 fun _ e2 _ _ X3=>Yd (H.next+2) ex X2 X3∧((e2= .normal∧J rest X3)∨(e2= .ret∧R X3)))
  (fin:∀ X,J [] X→fV H ex X→Q .normal T (H.next::mk) X) (ret:∀ X,R X→fV H ex X→Q .ret T (H.next::mk) X):gi E sz (.rangeFunc f #[p] as bo) T mk none H Q:=by
 refine UX h0 (ho _ _) ?_
 have n1:(H.qD sz T [p] as bo).next=H.next+2:=by rw[Heap.qD,iR,iR]
 have s1:aq H (H.qD sz T [p] as bo):=(AI _ _).trans (AI _ _)
 have r1:(H.qD sz T [p] as bo).objs.get (H.next+1)=some (.loop .ready none sz T [p] as bo H.next):=by rw[Heap.qD,pz,iR,cr rfl];rfl
 have d1:(H.qD sz T [p] as bo).objs.get H.next=some .defers:=by rw[Heap.qD,pz,iR,au (by omega),wS,pz,cr rfl];rfl
 have yp:fV H ex (H.qD sz T [p] as bo):=⟨s1.lo,by omega,d1,fun x hx _=>s1.objs x hx,s1.grps⟩
 have hl:H.next+1∉ex:=fun hh=>by have:=hex _ hh;omega
 refine(iter (.func (.yield (H.next+1)) #[] #[])
  (fun rest X=>J rest X∧X.objs.get (H.next+1)=some (.loop .ready none sz T [p] as bo H.next)∧fV H ex X)
  (fun X=>R X∧X.objs.get (H.next+1)=some (.loop .done (some .ret) sz T [p] as bo H.next)∧fV H ex X) _ s1 n1 ?_ (fun _ _ h=>h.2.2) ?_ ⟨h1 _ yp s1,r1,yp⟩).mono ?_
 ·rintro rest X X' ⟨a,b,c⟩ pd
  exact⟨UW rest X X' a c pd,(pd.objs _ (by omega)).trans b,c.pd pd⟩
 ·rintro v rest X ⟨a,b,c⟩
  have hb:Nat.blt p sz=true:=wP hp
  refine US (UU _ _ _) b (by have:=c.lo;omega) (T:=T.set p (enc v)) (by simp only[paramsT,hb,wai]) ?_
  refine(yq as (body v rest X a c)).mono ?_
  rintro e T1 GK X1 ⟨rfl,rfl,sx,k⟩
  have b1:X1.objs.get (H.next+1)=some (.loop .ready none sz T [p] as bo H.next):=sx.keeps (by have:=c.ag;omega) b
  refine⟨rfl,_,UY b1,?_⟩
  refine(yq bo (k _ (py.lu _ X1 _))).mono ?_
  rintro e2 T3 mk3 X3 ⟨yd,hq⟩
  have b3:X3.objs.get (H.next+1)=some (.loop .busy none sz T [p] as bo H.next):=by rw[yd.below _ (by omega) hl,iU,cr rfl];rfl
  have c1:fV H ex X1:=c.pd (sx.pd c.ag)
  have c3:fV H ex X3:=(c1.lu _).yd hex yd
  have y4:∀ o,Yd (H.next+2) ((H.next+1)::ex) X (X3.setObj (H.next+1) o):=fun o=>
   (((sx.yd c.ag).lu (wW ..) _).trans (yd.more fun x hx=>wM _ hx)).lu (wW ..) _
  rcases hq with⟨rfl,hJ⟩|⟨rfl,hR⟩
  ·exact⟨_,Me b3,.inl ⟨rfl,⟨Mc _ _ _ hJ (py.lu _ X3 _),by rw[iU,cr rfl];rfl,c3.lu _⟩,y4 _⟩⟩
  ·exact⟨_,Me b3,.inr ⟨rfl,Md _ _ hR (py.lu _ X3 _),by rw[iU,cr rfl];rfl,c3.lu _⟩⟩
 ·rintro v X (⟨a,b,c⟩|⟨a,b,c⟩)
  ·exact⟨_,_,b,by simp,.inl ⟨rfl,fin _ (Mc _ _ _ a (py.lu _ X _)) (c.lu _)⟩⟩
  ·exact⟨_,_,b,by simp,.inr ⟨rfl,ret _ (Md _ _ a (py.lu _ X _)) (c.lu _)⟩⟩
end
section
variable[Maps]{B lo0:Nat}{m:Match}{H:Heap}{w:World}{E:Env}
theorem Va(hE:EnvOk E){g:FuncId}{fn:Func}{c:Code}{args:List Value}{bI:Array Value}{v:Value}(h1:E.fn.get g=some fn)(h2:fn.body=some c)(h3:args.length≤fn.ntmps)
  (h:Ends E fn [c] {T:=Tr.of args,size:=fn.ntmps,marks:=[],round:=none} H v) (hv:∀ m v',VRel m v v'→v'=v) (hR:Rel B H.lo m H w) (ha:LRel m args bI.toList):
  Calls E.P g bI w fun e w'=>e= .returned v∧Old B w w':=by
 rw[←callsIn_wide (n:=0)]
 have hf:=hE.fn g fn h1
 refine wcQ hf h2 trivial ?_
 have cG:gB m {T:=Tr.of args,size:=fn.ntmps,marks:=[],round:=none} {tmps:=bI++Array.replicate (fn.ntmps-bI.size) undef,defers:=[]} none:=by
  refine⟨fun t v hv=>?_,?_,trivial,fun _=>rfl⟩
  ·obtain⟨v',e1,e2⟩:=ha.get (Tr.Al hv)
   have:t<bI.size:=by simpa using(wD.1 e1).1
   exact⟨v',by rw[wcb this];simpa using e1,e2⟩
  ·have:=ha.1
   simp at this ⊢;omega
 have one:c.wpIn (fg none) 0 E.P (Fin E fn B H.lo w v) {tmps:=bI++Array.replicate (fn.ntmps-bI.size) undef,defers:=[]} w:=
  waJ (h B m _ w hR cG) fun e a' w' he=>by cases e<;>exact he
 refine waJ one fun e a' w' hp=>?_
 obtain⟨he,hold,m',H',bl,t,vs,hl,nQ,dQ,hk,hr,hp⟩:=hp
 have tB:LeavesInM Fence.wide 0 E.P fn a'.tmps (fun e fD=>e= .returned v∧Old B w fD) a'.defers .returning w':=by
  refine Db (B:=B) (lo0:=H.lo) bl.marks a'.defers H' w' t dQ.marks nQ (by rw[hl];exact hk) fun fD ic=>?_
  obtain⟨v',r1,r2⟩:=FW hE ic.rel dQ.tmps hr
  rw[hp]at r2
  refine⟨v',r1,by rw[hv m' v' r2],hold.trans ?_⟩
  refine⟨fun b hb=>ic.frame b (wq hb nQ.base) fun r p GZ oL kh=>?_,ic.size,ic.os⟩
  have:=(nQ.dom r p GZ).2.2.1 (by rw[←hl];exact oL)
  omega
 rcases he with rfl|rfl
 ·exact tB
 ·exact tB
theorem calls_of_callA(hE:EnvOk E)(hO:OrcOk E){g:FuncId}{fn:Func}{c:Code}{args:List Value}{bI:Array Value}{v:Value}(ho:E.orc (.func (.func g) #[] #[]) args H=none)(h1:E.fn.get g=some fn)(h2:fn.body=some c)
  (h:af E (.func (.func g) #[] #[]) args H fun v' _=>v'=v) (hv:∀ m v',VRel m v v'→v'=v) (hR:Rel B H.lo m H w) (ha:LRel m args bI.toList):
  Calls E.P g bI w fun e w'=>e= .returned v∧Old B w w':=by
 obtain⟨n,v',H',h4,h5⟩:=h
 subst h5
 unfold fQ at h4
 rw[ho]at h4
 simp only[callBody,target,waw,wL,wo,h1,h2]at h4
 obtain⟨h3,h4⟩:=cD h4
 simp only[we]at h4
 obtain⟨r,h6,h7⟩:=h4
 have ck:args.length≤fn.ntmps:=by
  simp only[waM]at h3
  exact wan h3
 have jy:endN E n fn [c] {T:=Tr.of args,size:=fn.ntmps,marks:=[],round:=none} H=some v':=by
  obtain⟨ex,fr,H2⟩:=r
  unfold endN
  cases ex with
  |exit i=>simp at h7
  |normal=>
   simp only[Tr.force_eq,we,wi,wk]at h7
   obtain⟨t,h8,vs,h9,aZ,_⟩:=h7
   simp only[runL,h6,wo,h8,h9,aZ]
  |ret=>
   simp only[Tr.force_eq,we,wi,wk]at h7
   obtain⟨t,h8,vs,h9,aZ,_⟩:=h7
   simp only[runL,h6,wo,h8,h9,aZ]
 exact Va hE h1 h2 ck (Ends.last hE hO jy) hv hR ha
end
end Go.AM
