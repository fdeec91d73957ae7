/-
  Walks over letters of the functions that the law reaches; written small by a program of mine.
-/
import Derived.Test.YtjgppeeplkidpaaGreatGYY
import Derived.Test.YtjgppeeplkidpaaGreatGYR
import Derived.Test.YtjgppeeplkidpaaGreatGZT
import Derived.Test.YtjgppeeplkidpaaGreatGYK
import Derived.Test.YtjgppeeplkidpaaGreatAMd
set_option linter.unusedVariables false
set_option linter.unusedSectionVars false
namespace Go.AM
attribute [local instance] fnMaps
open Go Go.Proofs
set_option maxRecDepth 100000
set_option maxHeartbeats 4000000
set_option linter.unusedSimpArgs false
theorem zhu(H:Heap)(an:H.lo≤H.next){s r:St}{w t f zl w' t' f' gM va zJ iv Ci:Value}{l m:List Ans}{p q:List Int}(k k':Wk4)(y y' e g e' g':Int)(hS:eK H s w t f zl)(hR:eK H r w' t' f' gM)
  (hl:SLr RAns 9 H va l) (hm:SLr RAns 9 H zJ m) (hp:SLr (RInt .i64) 1 H iv p) (hq:SLr (RInt .i64) 1 H Ci q) (B:Bool) (cd:nj s) (fS:s.words.length≤400) (jI:s.table.length≤100) (nt: -9223372036854775808≤s.top∧s.top≤9223372036854775807)
  (mL:∀ X:Heap,X.lo≤X.next→Ko H X→af E (aK 18) [cz s w t f zl,cz r w' t' f' gM] X fun v X'=>v= .bool B∧aq X X'):
  af E (aK 25) [.agg #[va,.int .i64 s.cfg.eP,.int .i64 s.cfg.fp,.int .i64 s.cfg.aI,.int .i64 s.cfg.gV,.bool s.second,w,.int .i64 s.top,t,f,zl,iv,.int .i64 k.a,.int .i64 k.b,.int .i64 k.c,.int .i64 k.d,.int .i64 y,.int .i64 e,.int .i64 g],
   .agg #[zJ,.int .i64 r.cfg.eP,.int .i64 r.cfg.fp,.int .i64 r.cfg.aI,.int .i64 r.cfg.gV,.bool r.second,w',.int .i64 r.top,t',f',gM,Ci,.int .i64 k'.a,.int .i64 k'.b,.int .i64 k'.c,.int .i64 k'.d,.int .i64 y',.int .i64 e',.int .i64 g']] H
   fun v H'=>v= .bool (decide (l=m)&&decide (p=q)&&decide (k=k')&&B&&decide (dR s=0))∧aq H H':=by
 have c1:=fun(X:Heap) (hx:X.lo≤X.next) (k:Ko H X)=>zg6 X hx _ _ _ _ (hl.ko RAns.mono k) (hm.ko RAns.mono k)
 have c3:=fun(X:Heap) (hx:X.lo≤X.next) (k:Ko H X)=>Qm X hx (hS.ko k) cd fS jI nt
 have c2:=fun(X:Heap) (hx:X.lo≤X.next) (k:Ko H X)=>zgj X hx _ _ _ _ (hp.ko (RInt.mono _) k) (hq.ko (RInt.mono _) k)
 obtain⟨⟨wa,wc,rfl,_⟩,_⟩:=hS.w
 obtain⟨⟨ta,tc,rfl,_⟩,_⟩:=hS.t
 obtain⟨⟨fa,fc,rfl,_⟩,_⟩:=hS.f
 obtain⟨⟨za,zc,rfl,_⟩,_⟩:=hS.sl
 obtain⟨⟨zx,zy,rfl,_⟩,_⟩:=hR.w
 obtain⟨⟨zz,zA,rfl,_⟩,_⟩:=hR.t
 obtain⟨⟨zB,zC,rfl,_⟩,_⟩:=hR.f
 obtain⟨⟨zD,zE,rfl,_⟩,_⟩:=hR.sl
 obtain⟨⟨la,lc,rfl,_⟩,_⟩:=hl
 obtain⟨⟨ma,mc,rfl,_⟩,_⟩:=hm
 obtain⟨⟨pa,pc,rfl,_⟩,_⟩:=hp
 obtain⟨⟨qa,qc,rfl,_⟩,_⟩:=hq
 clear hS hR
 unfold cz at mL c3
 have hwk:=fun x y=>zhr x y k k'
 generalize decide (l=m)=b1 at*
 generalize decide (p=q)=b2 at*
 generalize decide (k=k')=b3 at*
 generalize hcn:dR s=n at*
 refine aV Tryz.f25 ?_
 simp only[Tryz.f25]
 cases b1<;>cases b2<;>cases b3<;>cases B
 all_goals repeat'(first|((with_reducible show af _ _ _ _ _);(first|refine ao H (c1 _ ah aj) ?_|refine ao H (c2 _ ah aj) ?_|refine ao H (mL _ ah aj) ?_|refine ao H (c3 _ ah aj) ?_);intro H2 k2 l2 n2 g2 q2;try simp(disch:=omega)only[sm,sl]at l2 n2 g2 q2)|simp(disch:=omega)only[↓aa,ab,simprocAttr,sa, *])
 all_goals exact bq
def StP(H:Heap)(v:Value)(s:St):Prop:=∃ w t f zl,v=cz s w t f zl∧eK H s w t f zl∧(∀x∈s.words,x<2^64)∧(∀x∈s.aI,x.word<2^64)∧ -9223372036854775808≤s.top∧s.top≤9223372036854775807
def Kp(H:Heap):Prop:=∀ r cells g t,H.objs.get r=some (.row cells g t)→g=none∨cells=[]
theorem RU{H:Heap}{v:Value}{ws:List Nat}(h:Kp H)(hv:SLr RW 1 H v ws)(h0:ws≠[]):Gz 1 H v:=by
 obtain⟨⟨a,c,rfl,_,hl⟩,_⟩:=hv
 intro a' n c' e cells g t aC
 simp only[waq]at e
 obtain⟨rfl,_,_⟩:=e
 obtain⟨r,o,cells',g',t',part,ha,_,ky,aR,_⟩:=hl 0 (ws[0]'(wcS.2 h0)) (wj (wcS.2 h0))
 cases ha
 rw[aC]at ky
 cases ky
 rcases h _ _ _ _ aC with q|q
 ·exact .inl q
 ·subst q
  rw[du]at aR
  split at aR
  ·rename_i hh;simp at hh
  ·cases aR
theorem fn5:E.fn.get 5=some Tryz.f5:=kq
theorem RV(H:Heap):af E (aK 21) [] H fun v H'=>v= .bool true∧aq H H':=⟨0,.bool true,H,by kernel_rfl,rfl,aq.refl H⟩
def workV(k:Wk4)(y:Int):Value:= .agg #[.int .i64 k.a,.int .i64 k.b,.int .i64 k.c,.int .i64 k.d,.int .i64 y]
theorem tells_law(H:Heap)(an:H.lo≤H.next)(hH:Kp H){va vb v1 v2 fv gv:Value}{l m:List Ans}{s r:St}{p q:List Int}(ha:SLr RAns 9 H va l)(hb:SLr RAns 9 H vb m)(hs:StP H v1 s)(hr:StP H v2 r)(hp:SLr (RInt .i64) 1 H fv p)(hq:SLr (RInt .i64) 1 H gv q)(k k':Wk4)(y y':Int):
  af E (aK 5) [va,vb,v1,v2,fv,gv,workV k y,workV k' y'] H fun v _=>v= .bool true:=by
 obtain⟨w,t,f,zl,rfl,hS,pB,hs2,hs3,RX⟩:=hs
 obtain⟨w',t',f',gM,rfl,hR,gS,cq,AT,hr4⟩:=hr
 have Kq:=fun(X:Heap) (hx:X.lo≤X.next) (k:Ko H X)=>Qy X hx (hS.ko k)
 have Kr:=fun(X:Heap) (hx:X.lo≤X.next) (k:Ko H X)=>Qy X hx (hR.ko k)
 have RY:=fun(X:Heap) (hx:X.lo≤X.next) (k:Ko H X)=>Qx X hx va vb l m (ha.ko RAns.mono k) (hb.ko RAns.mono k)
 have RZ:=fun(X:Heap) (hx:X.lo≤X.next) (k:Ko H X)=>zg8 X hx va vb l m (ha.ko RAns.mono k) (hb.ko RAns.mono k)
 have key:¬ ry s→¬ ry r→∃ b:Bool,
   (∀X:Heap,X.lo≤X.next→Ko H X→af E (aK 24) [.agg #[va,.int .i64 s.cfg.eP,.int .i64 s.cfg.fp,.int .i64 s.cfg.aI,.int .i64 s.cfg.gV,.bool s.second,w,.int .i64 s.top,t,f,zl,fv,.int .i64 k.a,.int .i64 k.b,.int .i64 k.c,.int .i64 k.d,.int .i64 y],
    .agg #[vb,.int .i64 r.cfg.eP,.int .i64 r.cfg.fp,.int .i64 r.cfg.aI,.int .i64 r.cfg.gV,.bool r.second,w',.int .i64 r.top,t',f',gM,gv,.int .i64 k'.a,.int .i64 k'.b,.int .i64 k'.c,.int .i64 k'.d,.int .i64 y']] X fun v X'=>v= .bool b∧aq X X')∧
   (∀X:Heap,X.lo≤X.next→Ko H X→af E (aK 25) [.agg #[va,.int .i64 s.cfg.eP,.int .i64 s.cfg.fp,.int .i64 s.cfg.aI,.int .i64 s.cfg.gV,.bool s.second,w,.int .i64 s.top,t,f,zl,fv,.int .i64 k.a,.int .i64 k.b,.int .i64 k.c,.int .i64 k.d,.int .i64 y,.int .i64 0,.int .i64 0],
    .agg #[vb,.int .i64 r.cfg.eP,.int .i64 r.cfg.fp,.int .i64 r.cfg.aI,.int .i64 r.cfg.gV,.bool r.second,w',.int .i64 r.top,t',f',gM,gv,.int .i64 k'.a,.int .i64 k'.b,.int .i64 k'.c,.int .i64 k'.d,.int .i64 y',.int .i64 0,.int .i64 0]] X fun v X'=>v= .bool b∧aq X X'):=by
  intro h1 h2
  unfold ry at h1 h2
  have cd:nj s:=⟨pB,hs2,by omega⟩
  have rB:nj r:=⟨gS,cq,by omega⟩
  obtain⟨B,hB⟩:∃ B:Bool,B=true↔zK s r:=by
   by_cases h:zK s r
   ·exact⟨true,fun _=>h,fun _=>rfl⟩
   ·exact⟨false,fun q=>(by cases q),fun q=>absurd q h⟩
  refine⟨decide (l=m)&&decide (p=q)&&decide (k=k')&&(decide (mw s r)&&B),fun X hx kX=>?_,fun X hx kX=>?_⟩
  ·refine zht X hx k k' y y' (hS.ko kX) (hR.ko kX) (ha.ko RAns.mono kX) (hb.ko RAns.mono kX) (hp.ko (RInt.mono _) kX) (hq.ko (RInt.mono _) kX) _ fun X1 vV k1=>?_
   refine zhe X1 vV (hS.ko (kX.trans k1)) (hR.ko (kX.trans k1)) B fun X2 oJ k2=>?_
   exact ziA X2 oJ (hS.ko ((kX.trans k1).trans k2)) (hR.ko ((kX.trans k1).trans k2)) (fun h=>(RU hH hS.w h).ko hS.w.2 ((kX.trans k1).trans k2)) (fun h=>(RU hH hR.w h).ko hR.w.2 ((kX.trans k1).trans k2)) cd rB (by omega) (by omega) (by omega) (by omega) (by omega) (by omega) B hB
  ·have hl:=zhu X hx k k' y y' 0 0 0 0 (hS.ko kX) (hR.ko kX) (ha.ko RAns.mono kX) (hb.ko RAns.mono kX) (hp.ko (RInt.mono _) kX) (hq.ko (RInt.mono _) kX) (decide (mw s r)&&B) cd (by omega) (by omega) ⟨hs3,RX⟩ fun X1 vV k1=>
    zhf X1 vV (hS.ko (kX.trans k1)) (hR.ko (kX.trans k1)) B fun X2 oJ k2=>
     zhJ X2 oJ (hS.ko ((kX.trans k1).trans k2)) (hR.ko ((kX.trans k1).trans k2)) cd rB (by omega) (by omega) (by omega) ⟨hs3,RX⟩ (by omega) (by omega) (by omega) ⟨AT,hr4⟩ B hB
   have e:(decide (l=m)&&decide (p=q)&&decide (k=k')&&(decide (mw s r)&&B)&&decide (dR s=0))=(decide (l=m)&&decide (p=q)&&decide (k=k')&&(decide (mw s r)&&B)):=by
    cases B with
    |false=>simp
    |true=>
     have:=(hB.1 rfl).1
     rw[wz this,wcm]
   rw[e]at hl
   exact hl
 obtain⟨⟨wa,wc,rfl,_⟩,_⟩:=hS.w
 obtain⟨⟨ta,tc,rfl,_⟩,_⟩:=hS.t
 obtain⟨⟨fa,fc,rfl,_⟩,_⟩:=hS.f
 obtain⟨⟨za,zc,rfl,_⟩,_⟩:=hS.sl
 obtain⟨⟨zx,zy,rfl,_⟩,_⟩:=hR.w
 obtain⟨⟨zz,zA,rfl,_⟩,_⟩:=hR.t
 obtain⟨⟨zB,zC,rfl,_⟩,_⟩:=hR.f
 obtain⟨⟨zD,zE,rfl,_⟩,_⟩:=hR.sl
 obtain⟨⟨la,lc,rfl,_⟩,_⟩:=ha
 obtain⟨⟨ma,mc,rfl,_⟩,_⟩:=hb
 obtain⟨⟨pa,pc,rfl,_⟩,_⟩:=hp
 obtain⟨⟨qa,qc,rfl,_⟩,_⟩:=hq
 clear hS hR
 unfold cz at Kq Kr
 refine aV Tryz.f5 ?_
 simp only[Tryz.f5]
 unfold cz workV
 repeat'(first|(apply ak<;>intro)|apply bw|refine cO (fun _=>?_) (fun _=>?_)|refine aw 7 [Fx,Fx,Fx,Fx,Fx,Fx,Fx,Fx,Fx,Fx,Tx,Fx,Fx,Fx,Fx,Fx,Fx,Fx,Fx,Fx] ?_|((with_reducible show af _ _ _ _ _);(first|refine ao H (RV _) ?_|refine ao H (Kq _ ah aj) ?_|refine ao H (Kr _ ah aj) ?_);intro H2 k2 l2 n2 g2 q2;try simp(disch:=omega)only[sm,sl]at l2 n2 g2 q2)|simp(disch:=omega)only[↓aa,ab,simprocAttr,sa, *])
 all_goals try omega
 refine vK (fun H9 e9=>?_)
 have k9:Ko H H9:=by rw[e9];exact aj
 have n9:=congrArg Heap.next e9;have l9:=congrArg Heap.lo e9;have g9:=fun r=>congrArg (fun h:Heap=>h.objs.get r) e9
 simp(disch:=omega)only[sm,sl]at n9 l9 g9
 clear e9
 obtain⟨b,c3,c4⟩:=key (by assumption) (by assumption)
 have b0:=g9 H2.next
 have b1:=g9 (H2.next+1)
 have b2:=g9 (H2.next+1+1)
 have b3:=g9 (H2.next+1+1+1)
 simp(disch:=omega)only[sm,sl]at b0 b1 b2 b3
 clear g9
 refine af.mono (RY _ (by omega) k9) ?_
 rintro _ Y ⟨⟨x,rfl,hx⟩,sY⟩
 have kY:=sY.ko
 have lY:=sY.lo;have nY:=sY.ag
 repeat'(first|(apply ak<;>intro)|apply bw|refine cO (fun _=>?_) (fun _=>?_)|refine aw 7 [Fx,Fx,Fx,Fx,Fx,Fx,Fx,Fx,Fx,Fx,Tx,Fx,Fx,Fx,Fx,Fx,Fx,Fx,Fx,Fx] ?_|simp(disch:=omega)only[↓aa,ab,simprocAttr,sa, *])
 all_goals try omega
 refine af.mono (RZ _ (by omega) (k9.trans kY)) ?_
 rintro _ Z ⟨⟨x',rfl,cu⟩,sZ⟩
 have e:=zg7 hx cu
 subst e
 have kZ:=sZ.ko
 have lZ:=sZ.lo;have nZ:=sZ.ag
 have kH:=(k9.trans kY).trans kZ
 have d0:=(kZ.objs _ (by omega)).trans ((kY.objs _ (by omega)).trans b0)
 have d1:=(kZ.objs _ (by omega)).trans ((kY.objs _ (by omega)).trans b1)
 have d2:=(kZ.objs _ (by omega)).trans ((kY.objs _ (by omega)).trans b2)
 have d3:=(kZ.objs _ (by omega)).trans ((kY.objs _ (by omega)).trans b3)
 have dx:decide (x=x)=true:=wz rfl
 clear hx cu b0 b1 b2 b3 sY sZ key RY RZ Kq Kr
 cases b
 all_goals repeat'(first|(apply ak<;>intro)|apply bw|refine cO (fun _=>?_) (fun _=>?_)|refine aw 7 [Fx,Fx,Fx,Fx,Fx,Fx,Fx,Fx,Fx,Fx,Tx,Fx,Fx,Fx,Fx,Fx,Fx,Fx,Fx,Fx] ?_|((with_reducible show af _ _ _ _ _);(first|refine ao Z (c3 _ ah (kH.trans aj)) ?_|refine ao Z (c4 _ ah (kH.trans aj)) ?_|refine ao Z (RV _) ?_);intro H2 k2 l2 n2 g2 q2;try simp(disch:=omega)only[sm,sl]at l2 n2 g2 q2)|simp(disch:=omega)only[↓aa,ab,simprocAttr,sa, *])
 all_goals try omega
 all_goals trace_state
theorem SL.sub{α:Type}{R S:Heap→List Value→α→Prop}{z:Nat}{H:Heap}{v:Value}{l:List α}(h:SL R z H v l)(hs:∀ p x,R H p x→S H p x):SL S z H v l:=by
 obtain⟨a,c,e,hl,h⟩:=h
 refine⟨a,c,e,hl,fun i x hi=>?_⟩
 obtain⟨r,o,cells,g,t,part,h1,h2,h3,h4,h5⟩:=h i x hi
 exact⟨r,o,cells,g,t,part,h1,h2,h3,h4,hs _ _ h5⟩
theorem SL.all{α:Type}{R:Heap→List Value→α→Prop}{Q:α→Prop}{z:Nat}{H:Heap}{v:Value}{l:List α}(h:SL R z H v l)(hq:∀ p x,R H p x→Q x):∀ x∈l,Q x:=by
 obtain⟨a,c,e,hl,h⟩:=h
 intro x hx
 obtain⟨i,hi⟩:=wbx.1 hx
 obtain⟨r,o,cells,g,t,part,h1,h2,h3,h4,h5⟩:=h i x hi
 exact hq _ _ h5
theorem R0{n:Int}(h:(Lit.int .u64 n).wf=true):∃ k:Nat,n=k∧k<2^64:=by
 have h':0≤n∧n≤18446744073709551615:=by simpa[Lit.wf,IntKind.min,IntKind.max,IntKind.bits,IntKind.signed]using h
 exact⟨n.toNat,by omega,by omega⟩
def R3:Heap→List Value→Nat→Prop:=fun _ part n=>part=[wV n]∧n<2^64
def R4:Heap→List Value→Slot→Prop:=fun _ part x=>part=qR x∧x.word<2^64
section
variable{Hd:Type}{enc:TypeId×Value→Hd}{w:World}{base:Nat}{held:Bool}
theorem ziB:tx enc Tryz.prog w base held 56 R3:=by
 intro dT cs y h
 obtain⟨n,rfl,_,hw⟩:=wcB Tryz.underlying56 h
 obtain⟨k,rfl,hk⟩:=R0 hw
 exact⟨fun v hv=>by simp at hv;subst hv;rfl,k,rfl,hk⟩
theorem R5:tx enc Tryz.prog w base held 85 bD:=by
 intro dT cs y h
 obtain⟨h1,x,h2,h3⟩:=FN (w:=w) (n:=5) (t:=85) (ks:=[some .i64,some .i64]) kq dT cs y h
 match x,h3 with
 |[a,b],⟨⟨x,ha⟩,⟨y,hb⟩,_⟩=>exact⟨h1,⟨x,y⟩,by rw[bD,h2,ha,hb]⟩
theorem ziC{P:Program}{t:TypeId}(ht:P.underlying t=some .bool){dT:Nat}{v:Value}{y:DataW Hd×List MemPlace}(h:DataW.trod enc P w base (fun _=>true) held dT t [v]=some y):∃ n,v= .bool n:=by
 obtain⟨n,e,_⟩:=DataW.trod_bool ht h
 simp only[wbQ,wcl]at e
 exact⟨n,e⟩
theorem ziD:tx enc Tryz.prog w base held 58 R4:=by
 intro dT cs y h
 obtain⟨h1,x,h2,h3⟩:=FN (w:=w) (n:=5) (t:=58) (ks:=[none,some .i64,some .u64]) kq dT cs y h
 obtain⟨hl,n,hf⟩:=KL Tryz.underlying58 h
 rw[show Tryz.prog.cellsOf 58=3 by kernel_rfl]at hl
 match cs,hl,h1,h2,hf with
 |[c0,c1,c2],_,h1,h2,hf=>
  obtain⟨z2,g2⟩:=hf 2 _ rfl
  simp only[show Tryz.prog.cellsOf 56=1 by kernel_rfl,waZ,waV,wch,wcq]at g2
  obtain⟨m,e,_,hw⟩:=wcB Tryz.underlying56 g2
  simp only[wbQ,wcl]at e
  subst e
  obtain⟨k,rfl,hk⟩:=R0 hw
  match x,h3,h2 with
  |[a,b,c],⟨⟨x,ha⟩,⟨y,hb⟩,⟨z,hc⟩,_⟩,h2=>
   have eo:=h2
   simp only[wbk,List.map_nil,wbQ,wcl]at eo
   refine⟨h1,⟨x,y,k⟩,?_,hk⟩
   rw[h2,ha,hb,←eo.2.2]
   rfl
theorem opens_state{r:Reach}{b0:Nat}{v:Value}{d:DataW Hd}{ps:List MemPlace}(hval:Value.okWide Tryz.prog w r b0 28 v)(hd:DataW.Trod enc Tryz.prog w base (fun _=>true) held 28 v d ps):
  ∃cs:List Value,v= .agg cs.toArray∧(∀c∈cs,okV w c=true)∧∃ s,StP (wh w) (.agg (cs.map (trV w)).toArray) s:=by
 have hv:=hval
 obtain⟨cs,rfl,bf⟩:=WideShapes.okWide_struct Tryz.underlying28 hval
 obtain⟨dT,hd⟩:=hd
 obtain⟨hl,n,hf⟩:=KL Tryz.underlying28 hd
 rw[show Tryz.prog.cellsOf 28=10 by kernel_rfl]at bf hl
 match cs,bf,hf,hv with
 |⟨[c0,c1,c2,c3,c4,c5,c6,c7,c8,c9]⟩,_,hf,hv=>
  obtain⟨z0,h0⟩:=hf 0 _ rfl
  obtain⟨z1,h1⟩:=hf 1 _ rfl
  obtain⟨z2,h2⟩:=hf 2 _ rfl
  obtain⟨z3,h3⟩:=hf 3 _ rfl
  obtain⟨z4,h4⟩:=hf 4 _ rfl
  obtain⟨z5,h5⟩:=hf 5 _ rfl
  obtain⟨z6,h6⟩:=hf 6 _ rfl
  simp only[Value.cells,show Tryz.prog.cellsOf 23=4 by kernel_rfl,show Tryz.prog.cellsOf 4=1 by kernel_rfl,show Tryz.prog.cellsOf 3=1 by kernel_rfl,show Tryz.prog.cellsOf 24=1 by kernel_rfl,show Tryz.prog.cellsOf 25=1 by kernel_rfl,show Tryz.prog.cellsOf 26=1 by kernel_rfl,waZ,waV,wch,wcq]at h0 h1 h2 h3 h4 h5 h6
  unfold Value.okWide at hv
  rw[Tryz.underlying28]at hv
  obtain⟨iD,e,_,ts,ht,_,hc⟩:=hv
  simp only[Value.agg.injEq]at e
  subst e
  rw[show Tryz.prog.cellTypes Tryz.prog.depth 28=some [3,3,3,3,4,24,3,25,25,26] by kernel_rfl]at ht
  simp only[wi]at ht
  subst ht
  obtain⟨u5,e5,k5⟩:=hc 5 c5 rfl
  obtain⟨u7,e7,k7⟩:=hc 7 c7 rfl
  obtain⟨u8,e8,k8⟩:=hc 8 c8 rfl
  obtain⟨u9,e9,k9⟩:=hc 9 c9 rfl
  simp only[wY,waA,Nat.reduceAdd,Nat.reduceMod,wQ,wbo,wi]at e5 e7 e8 e9
  subst e5 e7 e8 e9
  have kc:=Ah 5 23 [some .i64,some .i64,some .i64,some .i64] kq _ _ _ h0
  obtain⟨⟨a0,rfl⟩,⟨a1,rfl⟩,⟨a2,rfl⟩,⟨a3,rfl⟩,_⟩:=kc
  obtain⟨b1,rfl⟩:=ziC Tryz.underlying4 h1
  obtain⟨n3,R6,_,xo⟩:=wcB Tryz.underlying3 h3
  simp only[wbQ,wcl]at R6
  subst R6
  have R7: -9223372036854775808≤n3∧n3≤9223372036854775807:=by simpa[Lit.wf,IntKind.min,IntKind.max,IntKind.bits,IntKind.signed]using xo
  obtain⟨g5,l5,s5⟩:=Ai (R:=R3) (z:=1) Tryz.underlying24 kq (by omega) (fun _=>ziB) h2 (fun a l c e=>by rw[e]at k5;exact Af Tryz.underlying24 k5)
  obtain⟨g7,l7,s7⟩:=Ai (R:=bD) (z:=2) Tryz.underlying25 kq (by omega) (fun _=>R5) h4 (fun a l c e=>by rw[e]at k7;exact Af Tryz.underlying25 k7)
  obtain⟨g8,l8,s8⟩:=Ai (R:=bD) (z:=2) Tryz.underlying25 kq (by omega) (fun _=>R5) h5 (fun a l c e=>by rw[e]at k8;exact Af Tryz.underlying25 k8)
  obtain⟨g9,l9,s9⟩:=Ai (R:=R4) (z:=3) Tryz.underlying26 kq (by omega) (fun _=>ziD) h6 (fun a l c e=>by rw[e]at k9;exact Af Tryz.underlying26 k9)
  refine⟨[_,_,_,_,_,_,_,_,_,_],rfl,?_,⟨⟨a0,a1,a2,a3⟩,b1,l5,n3,l7,l8,l9⟩,_,_,_,_,rfl,⟨⟨s5.sub fun _ _ h=>h.1,Ag g5⟩,⟨s7,Ag g7⟩,⟨s8,Ag g8⟩,⟨s9.sub fun _ _ h=>h.1,Ag g9⟩⟩,s5.all fun _ _ h=>h.2,s9.all (fun _ _ h=>h.2),R7.1,R7.2⟩
  intro c hc
  simp only[wad,wbb,wck]at hc
  rcases hc with rfl|rfl|rfl|rfl|rfl|rfl|rfl|rfl|rfl|rfl<;>first|rfl|assumption
theorem ziE:tx enc Tryz.prog w base held 102 RAns:=by
 intro dT cs y h
 obtain⟨h1,x,h2,h3⟩:=FN (w:=w) (n:=5) (t:=102) (ks:=[some .i64,some .i64,some .i64,some .i64,some .u64,none,some .i64,some .i64,some .i64]) kq dT cs y h
 match x,h3 with
 |[a,b,c,d,e,f,g,h,i],⟨⟨xa,ha⟩,⟨xb,hb⟩,⟨xc,hc⟩,⟨xd,hd⟩,⟨xe,he⟩,⟨xf,hf⟩,⟨xg,hg⟩,⟨xh,hh⟩,⟨xi,hi⟩,_⟩=>exact⟨h1,⟨xa,xb,xc,xd,xe,xf,xg,xh,xi⟩,by rw[RAns,h2,ha,hb,hc,hd,he,hf,hg,hh,hi];rfl⟩
theorem param_ans{r:Reach}{b0:Nat}{v:Value}{d:DataW Hd}{ps:List MemPlace}(hval:Value.okWide Tryz.prog w r b0 44 v)(hd:DataW.Trod enc Tryz.prog w base (fun _=>true) held 44 v d ps):okV w v=true∧∃ l,SLr RAns 9 (wh w) (trV w v) l:=by
 obtain⟨h1,⟨l,h2⟩,h3⟩:=KO (R:=RAns) Tryz.underlying44 (z:=9) kq (by omega) (fun _=>ziE) hval hd
 exact⟨h1,l,h2,h3⟩
theorem param_ints{r:Reach}{b0:Nat}{v:Value}{d:DataW Hd}{ps:List MemPlace}(hval:Value.okWide Tryz.prog w r b0 45 v)(hd:DataW.Trod enc Tryz.prog w base (fun _=>true) held 45 v d ps):okV w v=true∧∃ l,SLr (RInt .i64) 1 (wh w) (trV w v) l:=by
 obtain⟨h1,⟨l,h2⟩,h3⟩:=KO Tryz.underlying45 (z:=1) kq (by omega) (fun _=>Sv Tryz.underlying3) hval hd
 exact⟨h1,l,h2,h3⟩
theorem opens_work{r:Reach}{b0:Nat}{v:Value}{d:DataW Hd}{ps:List MemPlace}(hval:Value.okWide Tryz.prog w r b0 30 v)(hd:DataW.Trod enc Tryz.prog w base (fun _=>true) held 30 v d ps):∃ k y,v=workV k y:=by
 obtain⟨cs,rfl,bf⟩:=WideShapes.okWide_struct Tryz.underlying30 hval
 obtain⟨dT,hd⟩:=hd
 have hk:=Ah 5 30 [some .i64,some .i64,some .i64,some .i64,some .i64] kq _ _ _ hd
 rw[show Tryz.prog.cellsOf 30=5 by kernel_rfl]at bf
 match cs,bf,hk with
 |⟨[c0,c1,c2,c3,c4]⟩,_,hk=>
  obtain⟨⟨a0,rfl⟩,⟨a1,rfl⟩,⟨a2,rfl⟩,⟨a3,rfl⟩,⟨a4,rfl⟩,_⟩:=hk
  exact⟨⟨a0,a1,a2,a3⟩,a4,rfl⟩
theorem wh_alone(w:World):Kp (wh w):=by
 intro r cells g t h
 have h':(if r=iA w then some (AObj.row [] (some (0,0)) false)else some (.row (rowAt w (r%w.heap.size) (r/w.heap.size)) none true))=some (.row cells g t):=h
 split at h'
 ·simp only[wi,AObj.row.injEq]at h';exact .inr h'.1.symm
 ·simp only[wi,AObj.row.injEq]at h';exact .inl h'.2.1.symm
end
theorem okV_rels{w:World}:∀ {cs:List Value},(∀c∈cs,okV w c=true)→LRel (wm w) (cs.map (trV w)) cs
 |[],_=> .nil _
 |c::cs,h=> .cons (okV_rel w (h c (by simp))) (okV_rels fun c hc=>h c (by simp[hc]))
end Go.AM
