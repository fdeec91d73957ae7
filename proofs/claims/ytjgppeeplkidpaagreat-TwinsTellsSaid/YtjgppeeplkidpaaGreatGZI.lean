/-
  Walks over letters of the functions that the law reaches; written small by a program of mine.
-/
import Derived.Test.YtjgppeeplkidpaaGreatGZH
import Derived.Test.YtjgppeeplkidpaaGreatGYN
set_option linter.unusedVariables false
set_option linter.unusedSectionVars false
namespace Go.AM
attribute [local instance] fnMaps
open Go Go.Proofs
set_option maxRecDepth 100000
set_option maxHeartbeats 4000000
set_option linter.unusedSimpArgs false
theorem Fl{s r:St}{B:Bool}(hB:B=true↔zK s r)(h:dR s≠0∨dR r≠0):B=false:=by
 cases B with
 |false=>rfl
 |true=>
  obtain⟨h1,h2,_⟩:=hB.1 rfl
  rcases h with h|h
  ·exact absurd h1 h
  ·exact absurd h2 h
theorem Ra{s r:St}{B:Bool}(hB:B=true↔zK s r)(h1:dR s=0)(h2:dR r=0){o p:List Nat}(ho:Order (fB s) o)(hp:Order (fB r) p):B=true↔fz (fB s) o=fz (fB r) p:=
 hB.trans ⟨fun h=>(QT ho hp).1 h.2.2,fun h=>⟨h1,h2,(QT ho hp).2 h⟩⟩
theorem zhJ(H:Heap)(an:H.lo≤H.next){s r:St}{w t f zl w' t' f' gM:Value}(hS:eK H s w t f zl)(hR:eK H r w' t' f' gM)(cd:nj s)(rB:nj r)(hl:s.words.length≤400)(jI:s.table.length≤100)(fH:s.aI.length≤100000)(nt: -9223372036854775808≤s.top∧s.top≤9223372036854775807)
  (fL:r.words.length≤400) (JY:r.table.length≤100) (yX:r.aI.length≤100000) (zhK: -9223372036854775808≤r.top∧r.top≤9223372036854775807) (B:Bool) (hB:B=true↔zK s r):af E (aK 45) [cz s w t f zl,cz r w' t' f' gM] H fun v H'=>v= .bool B∧aq H H':=by
 have c1:=fun(X:Heap) (hx:X.lo≤X.next) (k:Ko H X)=>Q7 X hx (hS.ko k) cd hl jI fH nt
 have c2:=fun(X:Heap) (hx:X.lo≤X.next) (k:Ko H X)=>Q7 X hx (hR.ko k) rB fL JY yX zhK
 obtain⟨⟨wa,wc,rfl,_⟩,_⟩:=hS.w
 obtain⟨⟨ta,tc,rfl,_⟩,_⟩:=hS.t
 obtain⟨⟨fa,fc,rfl,_⟩,_⟩:=hS.f
 obtain⟨⟨za,zc,rfl,_⟩,_⟩:=hS.sl
 obtain⟨⟨zx,zy,rfl,_⟩,_⟩:=hR.w
 obtain⟨⟨zz,zA,rfl,_⟩,_⟩:=hR.t
 obtain⟨⟨zB,zC,rfl,_⟩,_⟩:=hR.f
 obtain⟨⟨zD,zE,rfl,_⟩,_⟩:=hR.sl
 clear hS hR
 unfold cz at c1 c2
 have n1:(aS s).length≤1000000:=E9 (by omega) (by omega)
 have n2:(aS r).length≤1000000:=E9 (by omega) (by omega)
 refine aV Tryz.f45 ?_
 simp only[Tryz.f45]
 unfold cz
 repeat'(first|(apply ak<;>intro)|apply bw|refine cO (fun _=>?_) (fun _=>?_)|simp(disch:=omega)only[↓aa,ab,simprocAttr,sa, *])
 refine af.mono (c1 _ ah aj) ?_
 rintro _ Y ⟨⟨mz,mA⟩,sY⟩
 have kY:Ko H Y:=Ko.call aj sY
 have lY:=sY.lo;have nY:=sY.ag;have gY:=sY.objs
 simp(disch:=omega)only[sm,sl]at lY nY gY
 have bY:=gY H.next (by omega)
 have kM:=gY (H.next+1) (by omega)
 simp(disch:=omega)only[sm,sl]at bY kM
 clear sY gY c1
 by_cases h0:dR s=0
 ·obtain⟨x,y,v,rfl,hG, -⟩:=mz h0
  have gs:=Fa (zI h0) cd.words cd.aI n1
  have ns:(fB s).nodes.length≤1000000:=by show((aS s).map _).length≤_;rw[wO];exact n1
  have nz:=hG
  obtain⟨⟨⟨na,nc,rfl,_⟩,_⟩,⟨⟨ra,rc,rfl,_⟩,_⟩⟩:=hG
  clear mz mA
  repeat'(first|(apply ak<;>intro)|apply bw|refine cO (fun _=>?_) (fun _=>?_)|simp(disch:=omega)only[↓aa,ab,simprocAttr,sa, *])
  refine af.mono (c2 _ ah aj) ?_
  rintro _ Z ⟨⟨mC,mD⟩,sZ⟩
  have oW:Ko Y Z:=Ko.call aj sZ
  have kZ:=kY.trans oW
  have lZ:=sZ.lo;have nZ:=sZ.ag;have gZ:=sZ.objs
  simp(disch:=omega)only[sm,sl]at lZ nZ gZ
  have bZ:=gZ Y.next (by omega)
  simp(disch:=omega)only[sm,sl]at bZ
  clear sZ gZ c2
  by_cases h1:dR r=0
  ·obtain⟨x2,y2,v2,rfl,hK, -⟩:=mC h1
   have gr:=Fa (zI h1) rB.words rB.aI n2
   have nr:(fB r).nodes.length≤1000000:=by show((aS r).map _).length≤_;rw[wO];exact n2
   have c3:=fun(X:Heap) (hx:X.lo≤X.next) (k:Ko Z X)=>zgP X hx (nz.ko (oW.trans k)) (hK.ko k) gs gr ns nr
   obtain⟨⟨⟨CA,CB,rfl,_⟩,_⟩,⟨⟨CC,CD,rfl,_⟩,_⟩⟩:=hK
   clear mC mD
   repeat'(first|(apply ak<;>intro)|apply bw|refine cO (fun _=>?_) (fun _=>?_)|simp(disch:=omega)only[↓aa,ab,simprocAttr,sa, *])
   refine af.mono (c3 _ ah aj) ?_
   rintro _ W ⟨⟨To,At,bad,hV,fC,gG⟩,sW⟩
   have kW:Ko Z W:=Ko.call aj sW
   have lW:=sW.lo
   simp(disch:=omega)only[sm,sl]at lW
   clear sW c3
   obtain⟨o,ho⟩:=Fb gs.right
   obtain⟨p,hp⟩:=Fb gr.right
   have hm:=(zhm gs.right gr.right ho hp hV).1
   have si:=Ra hB h0 h1 ho hp
   have kHW:=kZ.trans kW
   cases bad with
   |true=>
    have:=gG rfl
    subst this
    have tg:B=false:=by
     cases B with
     |false=>rfl
     |true=>exact absurd (hm.2 (si.1 rfl)) (by simp)
    subst tg
    clear fC gG hB si hm
    repeat'(first|(apply ak<;>intro)|apply bw|refine cO (fun _=>?_) (fun _=>?_)|simp(disch:=omega)only[↓aa,ab,simprocAttr,sa, *])
    all_goals exact bq
   |false=>
    obtain⟨v3,rfl, -⟩:=fC rfl
    have hBt:B=true:=si.2 (hm.1 rfl)
    subst hBt
    clear fC gG hB si hm
    repeat'(first|(apply ak<;>intro)|apply bw|refine cO (fun _=>?_) (fun _=>?_)|simp(disch:=omega)only[↓aa,ab,simprocAttr,sa, *])
    all_goals exact bq
  ·have e:=mD h1
   subst e
   have tg:=Fl hB (.inr h1)
   subst tg
   clear mC mD hB
   repeat'(first|(apply ak<;>intro)|apply bw|refine cO (fun _=>?_) (fun _=>?_)|simp(disch:=omega)only[↓aa,ab,simprocAttr,sa, *])
   all_goals exact bq
 ·have e:=mA h0
  subst e
  have tg:=Fl hB (.inl h0)
  subst tg
  clear mz mA hB
  repeat'(first|(apply ak<;>intro)|apply bw|refine cO (fun _=>?_) (fun _=>?_)|simp(disch:=omega)only[↓aa,ab,simprocAttr,sa, *])
  refine af.mono (c2 _ ah aj) ?_
  rintro _ Z ⟨⟨mC,mD⟩,sZ⟩
  have oW:Ko Y Z:=Ko.call aj sZ
  have kZ:=kY.trans oW
  have lZ:=sZ.lo;have nZ:=sZ.ag;have gZ:=sZ.objs
  simp(disch:=omega)only[sm,sl]at lZ nZ gZ
  have bZ:=gZ Y.next (by omega)
  simp(disch:=omega)only[sm,sl]at bZ
  clear sZ gZ c2
  by_cases h1:dR r=0
  ·obtain⟨x2,y2,v2,rfl,hK, -⟩:=mC h1
   obtain⟨⟨⟨CA,CB,rfl,_⟩,_⟩,⟨⟨CC,CD,rfl,_⟩,_⟩⟩:=hK
   clear mC mD
   repeat'(first|(apply ak<;>intro)|apply bw|refine cO (fun _=>?_) (fun _=>?_)|simp(disch:=omega)only[↓aa,ab,simprocAttr,sa, *])
   all_goals exact bq
  ·have e:=mD h1
   subst e
   clear mC mD
   repeat'(first|(apply ak<;>intro)|apply bw|refine cO (fun _=>?_) (fun _=>?_)|simp(disch:=omega)only[↓aa,ab,simprocAttr,sa, *])
   all_goals exact bq
end Go.AM
