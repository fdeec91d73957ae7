/-
  Walks over letters of the functions that the law reaches; written small by a program of mine.
-/
import Derived.Test.YtjgppeeplkidpaaGreatGZS
import Derived.Test.YtjgppeeplkidpaaGreatGZI
import Derived.Test.YtjgppeeplkidpaaGreatGZG
import Derived.Test.YtjgppeeplkidpaaGreatGYG
import Derived.Test.YtjgppeeplkidpaaGreatGYK
import Derived.Test.YtjgppeeplkidpaaGreatGC14
set_option linter.unusedVariables false
set_option linter.unusedSectionVars false
namespace Go.AM
attribute [local instance] fnMaps
open Go Go.Proofs
set_option maxRecDepth 100000
set_option maxHeartbeats 4000000
set_option linter.unusedSimpArgs false
theorem RP(H:Heap)(an:H.lo≤H.next){x y:Value}{g:Gr}(hG:eg H x y g)(hg:jT g)(hn:g.nodes.length≤900000)(rH:g.roots.length≤100000)(o:List Nat)(hO:Order g o):
  af E (aK 121) [.agg #[x,y]] H fun r H'=>(∃x' y',r= .tuple #[.agg #[x',y'],.int .i64 0]∧uH H' x' y' (fz g o))∧aq H H':=by
 have c1:=fun(X:Heap) (hx:X.lo≤X.next) (k:Ko H X)=>zie X hx (hG.ko k) hg (by omega)
 have c2:=fun(X:Heap) (hx:X.lo≤X.next) (k:Ko H X) (v:Value) (hv:SLr (RInt .i64) 1 X v (fI o))=>zix X hx (hG.ko k) hg hn rH v o hv (Ce hg.right hO)
 obtain⟨⟨na,nc,rfl,_⟩,_⟩:=hG.nodes
 obtain⟨⟨ra,rc,rfl,_⟩,_⟩:=hG.roots
 refine aV Tryz.f121 ?_
 simp only[Tryz.f121]
 repeat'(first|(apply ak<;>intro)|apply bw|refine cO (fun _=>?_) (fun _=>?_)|simp(disch:=omega)only[↓aa,ab,simprocAttr,sa, *])
 refine af.mono (c1 _ ah aj) ?_
 rintro _ Y ⟨⟨v,l,rfl,hl,hR⟩,sY⟩
 have e:=JI hl hO
 subst e
 have kY:Ko H Y:=Ko.call aj sY
 have lY:=sY.lo;have nY:=sY.ag;have gY:=sY.objs
 simp(disch:=omega)only[sm,sl]at lY nY gY
 have bY:=gY H.next (by omega)
 have kM:=gY (H.next+1) (by omega)
 simp(disch:=omega)only[sm,sl]at bY kM
 clear sY gY c1
 have GD:=hR
 obtain⟨⟨va,vc,rfl,_⟩,_⟩:=hR
 repeat'(first|(apply ak<;>intro)|apply bw|refine cO (fun _=>?_) (fun _=>?_)|simp(disch:=omega)only[↓aa,ab,simprocAttr,sa, *])
 all_goals try omega
 refine af.mono (c2 _ ah kY _ GD) ?_
 rintro _ Z ⟨⟨x',y',rfl,FE⟩,sZ⟩
 have kZ:=kY.call sZ
 have lZ:=sZ.lo;have nZ:=sZ.ag
 have bZ2:=(sZ.objs (H.next+1) (by omega)).trans kM
 obtain⟨CA,CB,e1⟩:=FE.nodes.form
 obtain⟨CC,CD,e2⟩:=FE.roots.form
 subst e1 e2
 have Kn:=FE.ext (ox (c':=[.slice CA (fz g l).nodes.length CB,.slice CC (fz g l).roots.length CD]) bZ2)
 clear FE sZ c2
 repeat'(first|(apply ak<;>intro)|apply bw|refine cO (fun _=>?_) (fun _=>?_)|simp(disch:=omega)only[↓aa,ab,simprocAttr,sa, *])
 all_goals try omega
 exact⟨⟨_,_,rfl,Kn⟩,aA⟩
theorem ziz(H:Heap)(an:H.lo≤H.next){x y x2 y2:Value}{a b:Gr}(hA:eg H x y a)(hB:eg H x2 y2 b)(ga:jT a)(gb:jT b)(na:a.nodes.length≤900000)(ra:a.roots.length≤100000)(nb:b.nodes.length≤900000)(rb:b.roots.length≤100000)(o p:List Nat)(hO:Order a o)(hP:Order b p):
  af E (aK 77) [.agg #[x,y],.agg #[x2,y2]] H fun r H'=>r= .bool (decide (fz a o=fz b p))∧aq H H':=by
 have c1:=fun(X:Heap) (hx:X.lo≤X.next) (k:Ko H X)=>RP X hx (hA.ko k) ga na ra o hO
 have c2:=fun(X:Heap) (hx:X.lo≤X.next) (k:Ko H X)=>RP X hx (hB.ko k) gb nb rb p hP
 obtain⟨⟨va1,vc1,rfl,_⟩,_⟩:=hA.nodes
 obtain⟨⟨va2,vc2,rfl,_⟩,_⟩:=hA.roots
 obtain⟨⟨va3,vc3,rfl,_⟩,_⟩:=hB.nodes
 obtain⟨⟨va4,vc4,rfl,_⟩,_⟩:=hB.roots
 refine aV Tryz.f77 ?_
 simp only[Tryz.f77]
 repeat'(first|(apply ak<;>intro)|apply bw|refine cO (fun _=>?_) (fun _=>?_)|simp(disch:=omega)only[↓aa,ab,simprocAttr,sa, *])
 refine af.mono (c1 _ ah aj) ?_
 rintro _ Y ⟨⟨x',y',rfl,hG⟩,sY⟩
 have kY:Ko H Y:=Ko.call aj sY
 have lY:=sY.lo;have nY:=sY.ag;have gY:=sY.objs
 simp(disch:=omega)only[sm,sl]at lY nY gY
 have bY:=gY H.next (by omega)
 have kM:=gY (H.next+1) (by omega)
 simp(disch:=omega)only[sm,sl]at bY kM
 clear sY gY c1
 obtain⟨wa1,wc1,e1⟩:=hG.nodes.form
 obtain⟨PV,E1,e2⟩:=hG.roots.form
 subst e1 e2
 repeat'(first|(apply ak<;>intro)|apply bw|refine cO (fun _=>?_) (fun _=>?_)|simp(disch:=omega)only[↓aa,ab,simprocAttr,sa, *])
 all_goals try omega
 refine af.mono (c2 _ ah (kY.trans aj)) ?_
 rintro _ Z ⟨⟨x3,y3,rfl,hK⟩,sZ⟩
 have oW:Ko Y Z:=Ko.call aj sZ
 have kZ:=kY.trans oW
 have lZ:=sZ.lo;have nZ:=sZ.ag;have gZ:=sZ.objs
 simp(disch:=omega)only[sm,sl]at lZ nZ gZ
 have bZ:=gZ Y.next (by omega)
 simp(disch:=omega)only[sm,sl]at bZ
 clear sZ gZ c2
 obtain⟨wa3,wc3,e1⟩:=hK.nodes.form
 obtain⟨wa4,wc4,e2⟩:=hK.roots.form
 subst e1 e2
 have c3:=fun(X:Heap) (hx:X.lo≤X.next) (k:Ko Z X)=>zgp X hx (hG.v.ko (oW.trans k)) (hK.v.ko k)
 repeat'(first|(apply ak<;>intro)|apply bw|refine cO (fun _=>?_) (fun _=>?_)|((with_reducible show af _ _ _ _ _);refine ao Z (c3 _ ah aj) ?_;intro H2 k2 l2 n2 g2 q2;try simp(disch:=omega)only[sm,sl]at l2 n2 g2 q2)|simp(disch:=omega)only[↓aa,ab,simprocAttr,sa, *])
 all_goals first|exact(kZ.trans (by assumption)).same (by omega)|exact aA|exact xW|omega|trace_state
theorem ziA(H:Heap)(an:H.lo≤H.next){s r:St}{w t f zl w' t' f' gM:Value}(hS:eK H s w t f zl)(hR:eK H r w' t' f' gM)(Fe:s.words≠[]→Gz 1 H w)(RQ:r.words≠[]→Gz 1 H w')(cd:nj s)(rB:nj r)(hl:s.words.length≤400)(jI:s.table.length≤100)(fH:s.aI.length≤100000)
  (fL:r.words.length≤400) (JY:r.table.length≤100) (yX:r.aI.length≤100000) (B:Bool) (hB:B=true↔zK s r):af E (aK 43) [cz s w t f zl,cz r w' t' f' gM] H fun v H'=>v= .bool B∧aq H H':=by
 have c1:=fun(X:Heap) (hx:X.lo≤X.next) (k:Ko H X)=>QY X hx (hS.ko k) (fun h=>(Fe h).ko hS.w.2 k) cd hl jI fH
 have c2:=fun(X:Heap) (hx:X.lo≤X.next) (k:Ko H X)=>QY X hx (hR.ko k) (fun h=>(RQ h).ko hR.w.2 k) rB fL JY yX
 obtain⟨⟨wa,wc,rfl,_⟩,_⟩:=hS.w
 obtain⟨⟨ta,tc,rfl,_⟩,_⟩:=hS.t
 obtain⟨⟨fa,fc,rfl,_⟩,_⟩:=hS.f
 obtain⟨⟨za,zc,rfl,_⟩,_⟩:=hS.sl
 obtain⟨⟨zx,zy,rfl,_⟩,_⟩:=hR.w
 obtain⟨⟨zz,zA,rfl,_⟩,_⟩:=hR.t
 obtain⟨⟨zB,zC,rfl,_⟩,_⟩:=hR.f
 obtain⟨⟨zD,zE,rfl,_⟩,_⟩:=hR.sl
 clear hS hR Fe RQ
 unfold cz at c1 c2
 have n1:(aS s).length≤500:=by
  have:=uC s
  unfold aS
  rw[wN,wO]
  omega
 have n2:(aS r).length≤500:=by
  have:=uC r
  unfold aS
  rw[wN,wO]
  omega
 have RR:∀ s:St,s.aI.length≤100000→(fB s).roots.length≤100000:=fun s hs=>by
  show(fM s.aI (aS s)).length≤_
  unfold fM
  rw[wO]
  have:=wb5 (fun y:Slot=>y.used) s.aI
  omega
 refine aV Tryz.f43 ?_
 simp only[Tryz.f43]
 unfold cz
 repeat'(first|(apply ak<;>intro)|apply bw|refine cO (fun _=>?_) (fun _=>?_)|simp(disch:=omega)only[↓aa,ab,simprocAttr,sa, *])
 refine af.mono (c1 _ ah aj) ?_
 rintro _ Y ⟨⟨mz,mA⟩,sY⟩
 have kY:Ko H Y:=Ko.call aj sY
 have lY:=sY.lo;have nY:=sY.ag;have gY:=sY.objs
 simp(disch:=omega)only[sm,sl]at lY nY gY
 have bY:=gY H.next (by omega)
 have kM:=gY (H.next+1) (by omega)
 simp(disch:=omega)only[sm,sl]at bY kM
 clear sY gY c1
 by_cases h0:dR s=0
 ·obtain⟨x,y,v,rfl,hG, -⟩:=mz h0
  have gs:=Fa (zI h0) cd.words cd.aI (by omega)
  have ns:(fB s).nodes.length≤900000:=by show((aS s).map _).length≤_;rw[wO];omega
  have rs:=RR s fH
  have nz:=hG
  obtain⟨⟨⟨na,nc,rfl,_⟩,_⟩,⟨⟨ra,rc,rfl,_⟩,_⟩⟩:=hG
  clear mz mA
  repeat'(first|(apply ak<;>intro)|apply bw|refine cO (fun _=>?_) (fun _=>?_)|simp(disch:=omega)only[↓aa,ab,simprocAttr,sa, *])
  refine af.mono (c2 _ ah aj) ?_
  rintro _ Z ⟨⟨mC,mD⟩,sZ⟩
  have oW:Ko Y Z:=Ko.call aj sZ
  have kZ:=kY.trans oW
  have lZ:=sZ.lo;have nZ:=sZ.ag;have gZ:=sZ.objs
  simp(disch:=omega)only[sm,sl]at lZ nZ gZ
  have bZ:=gZ Y.next (by omega)
  simp(disch:=omega)only[sm,sl]at bZ
  clear sZ gZ c2
  by_cases h1:dR r=0
  ·obtain⟨x2,y2,v2,rfl,hK, -⟩:=mC h1
   have gr:=Fa (zI h1) rB.words rB.aI (by omega)
   have nr:(fB r).nodes.length≤900000:=by show((aS r).map _).length≤_;rw[wO];omega
   have rr:=RR r yX
   obtain⟨o,ho⟩:=Fb gs.right
   obtain⟨p,hp⟩:=Fb gr.right
   have si:=Ra hB h0 h1 ho hp
   have c3:=fun(X:Heap) (hx:X.lo≤X.next) (k:Ko Z X)=>ziz X hx (nz.ko (oW.trans k)) (hK.ko k) gs gr ns rs nr rr o p ho hp
   have RS:B=decide (fz (fB s) o=fz (fB r) p):=by
    rw[waU,waL];exact si
   rw[←RS]at c3
   clear RS si hB
   obtain⟨⟨⟨CA,CB,rfl,_⟩,_⟩,⟨⟨CC,CD,rfl,_⟩,_⟩⟩:=hK
   clear mC mD
   repeat'(first|(apply ak<;>intro)|apply bw|refine cO (fun _=>?_) (fun _=>?_)|((with_reducible show af _ _ _ _ _);refine ao Z (c3 _ ah aj) ?_;intro H2 k2 l2 n2 g2 q2;try simp(disch:=omega)only[sm,sl]at l2 n2 g2 q2)|simp(disch:=omega)only[↓aa,ab,simprocAttr,sa, *])
   all_goals first|exact(kZ.trans (by assumption)).same (by omega)|exact aA|exact xW|omega|trace_state
  ·have e:=mD h1
   subst e
   have tg:=Fl hB (.inr h1)
   subst tg
   clear mC mD hB
   repeat'(first|(apply ak<;>intro)|apply bw|refine cO (fun _=>?_) (fun _=>?_)|simp(disch:=omega)only[↓aa,ab,simprocAttr,sa, *])
   all_goals exact bq
 ·have e:=mA h0
  subst e
  have tg:=Fl hB (.inl h0)
  subst tg
  clear mz mA hB
  repeat'(first|(apply ak<;>intro)|apply bw|refine cO (fun _=>?_) (fun _=>?_)|simp(disch:=omega)only[↓aa,ab,simprocAttr,sa, *])
  refine af.mono (c2 _ ah aj) ?_
  rintro _ Z ⟨⟨mC,mD⟩,sZ⟩
  have oW:Ko Y Z:=Ko.call aj sZ
  have kZ:=kY.trans oW
  have lZ:=sZ.lo;have nZ:=sZ.ag;have gZ:=sZ.objs
  simp(disch:=omega)only[sm,sl]at lZ nZ gZ
  have bZ:=gZ Y.next (by omega)
  simp(disch:=omega)only[sm,sl]at bZ
  clear sZ gZ c2
  by_cases h1:dR r=0
  ·obtain⟨x2,y2,v2,rfl,hK, -⟩:=mC h1
   obtain⟨⟨⟨CA,CB,rfl,_⟩,_⟩,⟨⟨CC,CD,rfl,_⟩,_⟩⟩:=hK
   clear mC mD
   repeat'(first|(apply ak<;>intro)|apply bw|refine cO (fun _=>?_) (fun _=>?_)|simp(disch:=omega)only[↓aa,ab,simprocAttr,sa, *])
   all_goals exact bq
  ·have e:=mD h1
   subst e
   clear mC mD
   repeat'(first|(apply ak<;>intro)|apply bw|refine cO (fun _=>?_) (fun _=>?_)|simp(disch:=omega)only[↓aa,ab,simprocAttr,sa, *])
   all_goals exact bq
def ry(s:St):Prop:=400<s.words.length∨60<s.table.length∨60<s.free.length∨100<s.aI.length
instance(s:St):Decidable (ry s):=by unfold ry;infer_instance
theorem Qy(H:Heap)(an:H.lo≤H.next){s:St}{w t f zl:Value}(hS:eK H s w t f zl):af E (aK 6) [cz s w t f zl] H fun r H'=>r= .bool (decide (ry s))∧aq H H':=by
 obtain⟨⟨wa,wc,rfl,_⟩,_⟩:=hS.w
 obtain⟨⟨ta,tc,rfl,_⟩,_⟩:=hS.t
 obtain⟨⟨fa,fc,rfl,_⟩,_⟩:=hS.f
 obtain⟨⟨iK,sc,rfl,_⟩,_⟩:=hS.sl
 refine aV Tryz.f6 ?_
 simp only[Tryz.f6]
 simp only[cz]
 by_cases c1:400<s.words.length
 ·repeat'(first|(apply ak<;>intro)|apply bw|simp(disch:=omega)only[↓aa,ab,simprocAttr,sa, *])
  all_goals((with_reducible show _∧_);exact⟨eZ (by simp only[wT,wG,wbh,wa5,ry];first|omega|(simp[*]<;>omega)),aA⟩)
 ·by_cases c2:60<s.table.length
  ·repeat'(first|(apply ak<;>intro)|apply bw|simp(disch:=omega)only[↓aa,ab,simprocAttr,sa, *])
   all_goals((with_reducible show _∧_);exact⟨eZ (by simp only[wT,wG,wbh,wa5,ry];first|omega|(simp[*]<;>omega)),aA⟩)
  ·by_cases c3:60<s.free.length
   ·repeat'(first|(apply ak<;>intro)|apply bw|simp(disch:=omega)only[↓aa,ab,simprocAttr,sa, *])
    all_goals((with_reducible show _∧_);exact⟨eZ (by simp only[wT,wG,wbh,wa5,ry];first|omega|(simp[*]<;>omega)),aA⟩)
   ·repeat'(first|(apply ak<;>intro)|apply bw|simp(disch:=omega)only[↓aa,ab,simprocAttr,sa, *])
    all_goals((with_reducible show _∧_);exact⟨eZ (by simp only[wT,wG,wbh,wa5,ry];first|omega|(simp[*]<;>omega)),aA⟩)
def mw(s r:St):Prop:=s.cfg=r.cfg∧s.second=r.second∧s.top=r.top∧s.table=r.table∧s.free=r.free∧s.aI.map db=r.aI.map db
instance(s r:St):Decidable (mw s r):=by unfold mw;infer_instance
theorem Qz(a b:cj)(d:Nat):eqV E (d+2) 23 (cm a) (cm b)=some (decide (a=b)):=by
 rw[decide_eq_decide.2 (show a=b↔a.eP=b.eP∧a.fp=b.fp∧a.aI=b.aI∧a.gV=b.gV by cases a;cases b;simp only[cj.mk.injEq]),cm,cm,eq_23]
 refine mu (a:= .int .i64 a.eP) (b:= .int .i64 b.eP) kq kq (by rw[eq_3,kN]) (
  mu (a:= .int .i64 a.fp) (b:= .int .i64 b.fp) kq kq (by rw[eq_3,kN]) (
  mu (a:= .int .i64 a.aI) (b:= .int .i64 b.aI) kq kq (by rw[eq_3,kN]) (
  E5 (a:= .int .i64 a.gV) (b:= .int .i64 b.gV) kq kq (by rw[eq_3,kN]))))
theorem zhc(x y:Operand)(a b:cj):binV E .eql 23 x y (.agg #[.int .i64 a.eP,.int .i64 a.fp,.int .i64 a.aI,.int .i64 a.gV]) (.agg #[.int .i64 b.eP,.int .i64 b.fp,.int .i64 b.aI,.int .i64 b.gV])=some (.bool (decide (a=b))):=by
 show(eqV E (98+2) 23 (cm a) (cm b)).bind _=_
 rw[Qz];rfl
theorem zhd(x y:Operand)(a b:cj):binV E .neq 23 x y (.agg #[.int .i64 a.eP,.int .i64 a.fp,.int .i64 a.aI,.int .i64 a.gV]) (.agg #[.int .i64 b.eP,.int .i64 b.fp,.int .i64 b.aI,.int .i64 b.gV])=some (.bool (!decide (a=b))):=by
 show(eqV E (98+2) 23 (cm a) (cm b)).bind _=_
 rw[Qz];rfl
theorem zhe(H:Heap)(an:H.lo≤H.next){s r:St}{w t f zl w' t' f' gM:Value}(hS:eK H s w t f zl)(hR:eK H r w' t' f' gM)(B:Bool)
  (mL:∀ X:Heap,X.lo≤X.next→Ko H X→af E (aK 43) [cz s w t f zl,cz r w' t' f' gM] X fun v X'=>v= .bool B∧aq X X'):
  af E (aK 17) [cz s w t f zl,cz r w' t' f' gM] H fun v H'=>v= .bool (decide (mw s r)&&B)∧aq H H':=by
 have c1:=fun(X:Heap) (hx:X.lo≤X.next) (k:Ko H X)=>Ik X hx _ _ _ _ (hS.ko k).t.1 (hR.ko k).t.1
 have c2:=fun(X:Heap) (hx:X.lo≤X.next) (k:Ko H X)=>Ik X hx _ _ _ _ (hS.ko k).f.1 (hR.ko k).f.1
 have c3:=fun(X:Heap) (hx:X.lo≤X.next) (k:Ko H X)=>zgq X hx _ _ _ _ (hS.ko k).sl (hR.ko k).sl
 obtain⟨⟨wa,wc,rfl,_⟩,_⟩:=hS.w
 obtain⟨⟨ta,tc,rfl,_⟩,_⟩:=hS.t
 obtain⟨⟨fa,fc,rfl,_⟩,_⟩:=hS.f
 obtain⟨⟨za,zc,rfl,_⟩,_⟩:=hS.sl
 obtain⟨⟨zx,zy,rfl,_⟩,_⟩:=hR.w
 obtain⟨⟨zz,zA,rfl,_⟩,_⟩:=hR.t
 obtain⟨⟨zB,zC,rfl,_⟩,_⟩:=hR.f
 obtain⟨⟨zD,zE,rfl,_⟩,_⟩:=hR.sl
 clear hS hR
 have hD:decide (mw s r)=(decide (s.cfg=r.cfg)&&(s.second==r.second)&&decide (s.top=r.top)&&decide (s.table=r.table)&&decide (s.free=r.free)&&decide (s.aI.map db=r.aI.map db)):=by
  rw[waU,waL]
  unfold mw
  simp only[wA,wbO,waL,and_assoc]
 rw[hD]
 clear hD
 unfold cz at mL⊢
 have QA:=fun x y=>zhc x y s.cfg r.cfg
 generalize decide (s.cfg=r.cfg)=b1 at*
 generalize decide (s.table=r.table)=b4 at*
 generalize decide (s.free=r.free)=b5 at*
 generalize decide (s.aI.map db=r.aI.map db)=b6 at*
 refine aV Tryz.f17 ?_
 simp only[Tryz.f17]
 cases b1 with
 |false=>
  repeat'(first|((with_reducible show af _ _ _ _ _);refine ao H (c3 _ ah aj) ?_;intro H2 k2 l2 n2 g2 q2;try simp(disch:=omega)only[sm,sl]at l2 n2 g2 q2)|simp(disch:=omega)only[↓aa,ab,simprocAttr,sa, *])
  all_goals exact bq
 |true=>
  cases gG:(s.second==r.second)with
  |false=>
   repeat'(first|((with_reducible show af _ _ _ _ _);refine ao H (c3 _ ah aj) ?_;intro H2 k2 l2 n2 g2 q2;try simp(disch:=omega)only[sm,sl]at l2 n2 g2 q2)|simp(disch:=omega)only[↓aa,ab,simprocAttr,sa, *])
   all_goals exact bq
  |true=>
   cases hb3:decide (s.top=r.top)with
   |false=>
    repeat'(first|((with_reducible show af _ _ _ _ _);refine ao H (c3 _ ah aj) ?_;intro H2 k2 l2 n2 g2 q2;try simp(disch:=omega)only[sm,sl]at l2 n2 g2 q2)|simp(disch:=omega)only[↓aa,ab,simprocAttr,sa, *])
    all_goals exact bq
   |true=>
    cases b4 with
    |false=>
     repeat'(first|((with_reducible show af _ _ _ _ _);(first|refine ao H (c1 _ ah aj) ?_|refine ao H (c3 _ ah aj) ?_);intro H2 k2 l2 n2 g2 q2;try simp(disch:=omega)only[sm,sl]at l2 n2 g2 q2)|simp(disch:=omega)only[↓aa,ab,simprocAttr,sa, *])
     all_goals exact bq
    |true=>
     cases b5<;>cases b6
     all_goals repeat'(first|((with_reducible show af _ _ _ _ _);(first|refine ao H (c1 _ ah aj) ?_|refine ao H (c2 _ ah aj) ?_|refine ao H (c3 _ ah aj) ?_|refine ao H (mL _ ah aj) ?_);intro H2 k2 l2 n2 g2 q2;try simp(disch:=omega)only[sm,sl]at l2 n2 g2 q2)|simp(disch:=omega)only[↓aa,ab,simprocAttr,sa, *])
     all_goals exact bq
end Go.AM
