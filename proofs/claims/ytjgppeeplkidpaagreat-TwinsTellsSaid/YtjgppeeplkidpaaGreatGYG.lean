/-
  Walks over letters of the functions that the law reaches; written small by a program of mine.
-/
import Derived.Test.YtjgppeeplkidpaaGreatGYA
import Derived.Test.YtjgppeeplkidpaaGreatGC10
import Derived.Test.YtjgppeeplkidpaaGreatGC17
import Derived.Test.YtjgppeeplkidpaaGreatGB3
import Derived.Test.YtjgppeeplkidpaaGreatGB0
set_option linter.unusedVariables false
set_option linter.unusedSectionVars false
namespace Go.AM
attribute [local instance] fnMaps
open Go Go.Proofs
set_option maxRecDepth 100000
set_option maxHeartbeats 4000000
set_option linter.unusedSimpArgs false
theorem zgo(H:Heap)(an:H.lo≤H.next)(va vb:Value)(l m:List Gn)(ha:SLr xt 3 H va l)(hb:SLr xt 3 H vb m):af E (aK 180) [va,vb,aK 181] H fun r H'=>r= .bool (decide (l=m))∧aq H H':=by
 obtain⟨⟨a,ca,rfl,⟨_,ft⟩,bs⟩, -⟩:=ha
 obtain⟨⟨b,cb,rfl,⟨_,me⟩,fh⟩, -⟩:=hb
 refine aV Tryz.f180 ?_
 simp only[Tryz.f180]
 by_cases bj:l.length=m.length
 ·have hd:decide ((l.length:Int)=m.length)=true:=wz (by omega)
  simp(disch:=omega)only[↓aa,ab,simprocAttr,sa, *]
  all_goals try omega
  refine bP H [1,2,15,16,17] (fun T1 H1 u1 k1 n1 l1 g1=>?_) aj
  try simp(disch:=omega)only[sm,sl]at n1 l1 g1
  simp only[sq,simprocAttr]at u1
  refine bL kq (fun nn T X=>∃ i:Nat,nn=l.length-i∧(T.get 17=some (.int .i64 i))∧(T.get 1=T1.get 1∧T.get 2=T1.get 2∧T.get 15=T1.get 15∧T.get 16=T1.get 16)∧Ko H1 X∧X.lo=H1.lo∧(i≤l.length∧l.take i=m.take i)) ?_ ?_
  ·refine⟨_,0,rfl,?_,?_,Ko.refl _,rfl,⟨wJ _,rfl⟩⟩<;>exact aJ
  rintro nn dA X1 ⟨i,rfl,m1,w1,kx1,eQ,⟨hi,hE⟩⟩ Qs hQ aG ai
  have bz:=k1.trans kx1;have dZ:=kx1.ag;have ed:=kx1.objs
  by_cases hlt:i<l.length
  ·obtain⟨r,o,cells,gg,tt,part,rfl,hr,aC,aR,f,w,rfl,hf,hw⟩:=bs i l[i] (by simp)
   obtain⟨r2,o2,gy,jP,jQ,jR,rfl,cq,fZ,cM,f2,w2,rfl,BW,BX⟩:=fh i m[i] (by simp)
   have a1:=bn hlt
   have a2:=bn (show i<m.length by omega)
   have e1:=bz.objs r hr
   have e2:=bz.objs r2 cq
   have hx:l[i]? =some l[i]:=wj hlt
   have hy:m[i]? =some m[i]:=wj (by omega)
   generalize l[i]=x at*
   generalize m[i]=y at*
   have c1:=fun(X:Heap) (hx:X.lo≤X.next) (k:Ko H X)=>zgn X hx f w f2 w2 x y (hf.ko cQ.mono k) (hw.ko RW.mono k) (BW.ko cQ.mono k) (BX.ko RW.mono k)
   obtain⟨⟨fa,fc,rfl,_⟩,_⟩:=hf
   obtain⟨⟨wa,wc,rfl,_⟩,_⟩:=hw
   obtain⟨⟨fa2,fc2,rfl,_⟩,_⟩:=BW
   obtain⟨⟨PV,E1,rfl,_⟩,_⟩:=BX
   by_cases bE:x=y
   ·have h3:l.take (i+1)=m.take (i+1):=by rw[wR,wR,hE,hx,hy,bE]
    have hc:decide (x=y)=true:=wz bE
    clear hE bE
    repeat'(first|(apply ak<;>intro)|((with_reducible show af _ _ _ _ _);refine ao H1 (c1 _ ah aj) ?_;intro H2 k2 l2 n2 g2 q2;try simp(disch:=omega)only[sm,sl]at l2 n2 g2 q2)|((with_reducible show Qs _ _ _ _ _);refine ai _ _ _ _ ?_)|simp(disch:=omega)only[↓aa,ab,simprocAttr,sa, *])
    all_goals first|(refine hQ _ _ _ ?_ ⟨i+1,rfl,?_,?_,?_,?_,⟨by omega,h3⟩⟩<;>exact aJ)|omega|trace_state
   ·have h3:decide (l=m)=false:=wx fun e=>by rw[e,hy]at hx;exact bE (waH hx).symm
    have hc:decide (x=y)=false:=wx bE
    clear hE bE
    repeat'(first|(apply ak<;>intro)|((with_reducible show af _ _ _ _ _);refine ao H1 (c1 _ ah aj) ?_;intro H2 k2 l2 n2 g2 q2;try simp(disch:=omega)only[sm,sl]at l2 n2 g2 q2)|((with_reducible show Qs _ _ _ _ _);first|refine ai _ _ _ _ ?_|refine aG _ _ _ ?_)|simp(disch:=omega)only[↓aa,ab,simprocAttr,sa, *])
    all_goals exact bq
  ·have hT:decide (l=m)=true:=wz (by
    have:i=l.length:=by omega
    subst this
    rw[waj,bj,waj]at hE
    exact hE)
   repeat'(first|(apply ak<;>intro)|((with_reducible show Qs _ _ _ _ _);refine ai _ _ _ _ ?_)|simp(disch:=omega)only[↓aa,ab,simprocAttr,sa, *])
   all_goals exact bq
 ·have hF:decide (l=m)=false:=wx fun e=>bj (by rw[e])
  have hd:decide ((l.length:Int)=m.length)=false:=wx (by omega)
  simp(disch:=omega)only[↓aa,ab,simprocAttr,sa, *]
  all_goals exact bq
theorem zgp(H:Heap)(an:H.lo≤H.next){x1 x2 y1 y2:Value}{a b:Gr}(hA:eg H x1 x2 a)(hB:eg H y1 y2 b):af E (aK 122) [.agg #[x1,x2],.agg #[y1,y2]] H fun r H'=>r= .bool (decide (a=b))∧aq H H':=by
 have c1:=fun(X:Heap) (hx:X.lo≤X.next) (k:Ko H X)=>PU X hx _ _ _ _ (hA.ko k).roots (hB.ko k).roots
 have c2:=fun(X:Heap) (hx:X.lo≤X.next) (k:Ko H X)=>zgo X hx _ _ _ _ (hA.ko k).nodes (hB.ko k).nodes
 obtain⟨⟨⟨na,nc,rfl,⟨_,hn⟩,_⟩,_⟩,⟨⟨ra,rc,rfl,_,_⟩,_⟩⟩:=hA
 obtain⟨⟨⟨nb,nd,rfl,⟨_,hm⟩,_⟩,_⟩,⟨⟨rb,rd,rfl,_,_⟩,_⟩⟩:=hB
 have rS:a=b↔a.nodes=b.nodes∧a.roots=b.roots:=⟨fun e=>by subst e;exact⟨rfl,rfl⟩,fun e=>by cases a;cases b;simp only at e;rw[e.1,e.2]⟩
 have hD:decide (a=b)=(decide (a.roots=b.roots)&&decide (a.nodes=b.nodes)):=by
  rw[waU,waL,rS]
  simp only[wA,waL,and_comm]
 rw[hD]
 clear hD rS
 refine aV Tryz.f122 ?_
 simp only[Tryz.f122]
 cases hk:decide (a.roots=b.roots)with
 |false=>
  repeat'(first|((with_reducible show af _ _ _ _ _);refine ao H (c1 _ ah aj) ?_;intro H2 k2 l2 n2 g2 q2;try simp(disch:=omega)only[sm,sl]at l2 n2 g2 q2)|simp(disch:=omega)only[↓aa,ab,simprocAttr,sa, *])
  all_goals exact bq
 |true=>
  repeat'(first|((with_reducible show af _ _ _ _ _);(first|refine ao H (c1 _ ah aj) ?_|refine ao H (c2 _ ah aj) ?_);intro H2 k2 l2 n2 g2 q2;try simp(disch:=omega)only[sm,sl]at l2 n2 g2 q2)|simp(disch:=omega)only[↓aa,ab,simprocAttr,sa, *])
  all_goals exact bq
def db(x:Slot):Bool×Int:=(x.used,x.gen)
theorem PW(H:Heap)(an:H.lo≤H.next)(x y:Slot):af E (aK 42) [.agg #[.bool x.used,.int .i64 x.gen,.int .u64 x.word],.agg #[.bool y.used,.int .i64 y.gen,.int .u64 y.word]] H fun r H'=>r= .bool (decide (db x=db y))∧aq H H':=by
 have hD:decide (db x=db y)=((x.used==y.used)&&decide (x.gen=y.gen)):=by
  rw[waU,waL]
  unfold db
  simp only[wk,wA,wbO,waL]
 rw[hD]
 clear hD
 refine aV Tryz.f42 ?_
 simp only[Tryz.f42]
 cases hu:(x.used==y.used)with
 |false=>
  simp(disch:=omega)only[↓aa,ab,simprocAttr,sa, *]
  all_goals exact bq
 |true=>
  simp(disch:=omega)only[↓aa,ab,simprocAttr,sa, *]
  all_goals exact bq
theorem zgq(H:Heap)(an:H.lo≤H.next)(va vb:Value)(l m:List Slot)(ha:SLr qS 3 H va l)(hb:SLr qS 3 H vb m):af E (aK 41) [va,vb,aK 42] H fun r H'=>r= .bool (decide (l.map db=m.map db))∧aq H H':=by
 obtain⟨⟨a,ca,rfl,⟨_,ft⟩,bs⟩, -⟩:=ha
 obtain⟨⟨b,cb,rfl,⟨_,me⟩,fh⟩, -⟩:=hb
 refine aV Tryz.f41 ?_
 simp only[Tryz.f41]
 by_cases bj:l.length=m.length
 ·have hd:decide ((l.length:Int)=m.length)=true:=wz (by omega)
  simp(disch:=omega)only[↓aa,ab,simprocAttr,sa, *]
  all_goals try omega
  refine bP H [1,2,15,16,17] (fun T1 H1 u1 k1 n1 l1 g1=>?_) aj
  try simp(disch:=omega)only[sm,sl]at n1 l1 g1
  simp only[sq,simprocAttr]at u1
  refine bL kq (fun nn T X=>∃ i:Nat,nn=l.length-i∧(T.get 17=some (.int .i64 i))∧(T.get 1=T1.get 1∧T.get 2=T1.get 2∧T.get 15=T1.get 15∧T.get 16=T1.get 16)∧Ko H1 X∧X.lo=H1.lo∧(i≤l.length∧(l.take i).map db=(m.take i).map db)) ?_ ?_
  ·refine⟨_,0,rfl,?_,?_,Ko.refl _,rfl,⟨wJ _,rfl⟩⟩<;>exact aJ
  rintro nn dA X1 ⟨i,rfl,m1,w1,kx1,eQ,⟨hi,hE⟩⟩ Qs hQ aG ai
  have bz:=k1.trans kx1;have dZ:=kx1.ag;have ed:=kx1.objs
  by_cases hlt:i<l.length
  ·obtain⟨r,o,cells,gg,tt,part,rfl,hr,aC,aR,rfl⟩:=bs i l[i] (by simp)
   obtain⟨r2,o2,gy,jP,jQ,jR,rfl,cq,fZ,cM,rfl⟩:=fh i m[i] (by simp)
   have a1:=bn hlt
   have a2:=bn (show i<m.length by omega)
   have e1:=bz.objs r hr
   have e2:=bz.objs r2 cq
   have hx:l[i]? =some l[i]:=wj hlt
   have hy:m[i]? =some m[i]:=wj (by omega)
   generalize l[i]=x at*
   generalize m[i]=y at*
   unfold qR at aR cM
   by_cases bE:db x=db y
   ·have h3:(l.take (i+1)).map db=(m.take (i+1)).map db:=by
     rw[wR,wR,waT,waT,hE,hx,hy]
     show _++[db x]=_++[db y]
     rw[bE]
    have hc:decide (db x=db y)=true:=wz bE
    clear hE bE
    repeat'(first|(apply ak<;>intro)|((with_reducible show af _ _ _ _ _);refine ao H1 (PW _ ah x y) ?_;intro H2 k2 l2 n2 g2 q2;try simp(disch:=omega)only[sm,sl]at l2 n2 g2 q2)|((with_reducible show Qs _ _ _ _ _);refine ai _ _ _ _ ?_)|simp(disch:=omega)only[↓aa,ab,simprocAttr,sa, *])
    all_goals first|(refine hQ _ _ _ ?_ ⟨i+1,rfl,?_,?_,?_,?_,⟨by omega,h3⟩⟩<;>exact aJ)|omega|trace_state
   ·have h3:decide (l.map db=m.map db)=false:=wx fun e=>bE (by
     have:=congrArg (fun q=>q[i]?) e
     simp only[war,hx,hy,waE,wi]at this
     exact this)
    have hc:decide (db x=db y)=false:=wx bE
    clear hE bE
    repeat'(first|(apply ak<;>intro)|((with_reducible show af _ _ _ _ _);refine ao H1 (PW _ ah x y) ?_;intro H2 k2 l2 n2 g2 q2;try simp(disch:=omega)only[sm,sl]at l2 n2 g2 q2)|((with_reducible show Qs _ _ _ _ _);first|refine ai _ _ _ _ ?_|refine aG _ _ _ ?_)|simp(disch:=omega)only[↓aa,ab,simprocAttr,sa, *])
    all_goals exact bq
  ·have hT:decide (l.map db=m.map db)=true:=wz (by
    have:i=l.length:=by omega
    subst this
    rw[waj,bj,waj]at hE
    exact hE)
   clear hE
   repeat'(first|(apply ak<;>intro)|((with_reducible show Qs _ _ _ _ _);refine ai _ _ _ _ ?_)|simp(disch:=omega)only[↓aa,ab,simprocAttr,sa, *])
   all_goals exact bq
 ·have hF:decide (l.map db=m.map db)=false:=wx fun e=>bj (by have:=congrArg List.length e;simpa using this)
  have hd:decide ((l.length:Int)=m.length)=false:=wx (by omega)
  simp(disch:=omega)only[↓aa,ab,simprocAttr,sa, *]
  all_goals exact bq
set_option maxHeartbeats 1000000
def EA(ob:Option AObj)(r:Nat):Option AObj:=match ob with
 |some (.map es)=>some (.iter (some r) es.length .start)
 |some (.lh _ c)=>some (.lJ r c [] c)
 |_=>none
theorem za7(es:List (Value×Value))(r:Nat):EA (some (.map es)) r=some (.iter (some r) es.length .start):=wE rfl rfl
theorem za8(H:Heap)(r:Nat):Bm E H 168 (.map (some r))=EA (H.objs.get r) r:=by
 rw[zaP]
 cases h:H.objs.get r with
 |none=>simp[EA,gOf,entriesOf,h]
 |some o=>cases o<;>simp[EA,gOf,entriesOf,h]
def jm(ws:List Nat)(ks:List Int)(p:Int):Bool:=(List.range (aU ws p).fields.toNat).all fun k=>fx ks (jl ws p k false)
def keyOf:Value×Value→Int
 |(.int _ a,_)=>a
 |_=>0
theorem Ar.za9{H:Heap}{a rw g:Nat}{ws:List Nat}(h:Ar H a rw g ws)(p k:Int)(dY:Bool):jl ws p k dY<2^64:=by
 unfold jl
 split
 ·exact h.lt _
 ·omega
theorem zba(ws:List Nat)(p:Int):0≤(aU ws p).fields∧(aU ws p).fields≤65535:=by
 unfold aU
 split
 ·rename_i h
  have h2:=kx h
  have:=ku h2.2.2.1
  rw[h2.2.2.2.2]at this
  omega
 ·exact⟨by decide,by decide⟩
theorem zbb(H:Heap)(an:H.lo≤H.next){lp a rw m:Nat}{s:St}{w t f zl dK:Value}{dE ks:List Int}(hk:Lk H lp s w t f zl a rw m dK dE ks)(hl:lp<H.next)(hb:∀ x∈ks, -9223372036854775808≤x∧x≤9223372036854775807):af E (aK 200) [ptr lp 0] H fun r H'=>r= .bool (ks.all (jm s.words ks))∧aq H H':=by
 have aC:=hk.row
 have hA:=hk.ar
 have hm:=hk.map
 have qV:=hk.lm
 unfold gm at aC
 refine aV Tryz.f200 ?_
 simp only[Tryz.f200]
 simp(disch:=omega)only[↓aa,ab,simprocAttr,sa,za8,za7, *]
 refine Aj (fun T1 H1 eT eH=>?_)
 have sH:aq H H1:=by rw[eH];exact AI _ _
 have n1:H1.next=H.next+1:=by rw[eH,iR]
 have i1:H1.objs.get H.next=some (.iter (some m) (fW ks).length .start):=by rw[eH,pz,cr rfl];rfl
 have t13:T1.get 13=some (ptr H.next 0):=by rw[eT];simp(disch:=omega)only[↓aa,ab,simprocAttr]
 have t0:T1.get 0=some (ptr lp 0):=by rw[eT];simp(disch:=omega)only[↓aa,ab,simprocAttr]
 have ziU:=sH.lo
 have m1:=sH.keeps qV hm
 clear eT eH
 refine Vy (it:= .tmp 13) (r:=H.next) (rm:=m) (es:=fW ks) kq 2 (.bool false) (fun e=> !jm s.words ks (keyOf e)) (wap kq) rfl ?_ t13 i1 m1 (by omega) ?_ ?_ ?_
 ·show(dropAll _ T1).get 13=_
  rw[AV,t13]
  kernel_rfl
 ·intro i e he
  unfold Round
  generalize EB:dropAll _ T1=T0
  have f0:T0.get 0=some (ptr lp 0):=by rw[←EB,AV,t0];kernel_rfl
  have f13:T0.get 13=some (ptr H.next 0):=by rw[←EB,AV,t13];kernel_rfl
  clear EB
  have he0:=he
  unfold fW at he
  rw[war,wa6]at he
  obtain⟨p,hp,rfl⟩:=he
  have kh:=hb p (wag hp)
  generalize Bz:({objs:=(H1.setObj H.next (.iter (some m) (fW ks).length (.told i))).objs,grps:=H1.grps,next:=H1.next,lo:=H1.next}:Heap)=Hr
  have kr:Ko H Hr:=by rw[←Bz];exact⟨sH.ag,fun x hx=>by show(H1.setObj H.next _).objs.get x=_;rw[iU,au (by omega)];exact sH.objs x hx,sH.grps⟩
  have nr:Hr.next=H1.next:=by rw[←Bz]
  have lr:Hr.lo=H1.next:=by rw[←Bz]
  have ir:Hr.objs.get H.next=some (.iter (some m) (fW ks).length (.told i)):=by rw[←Bz];show(H1.setObj H.next _).objs.get H.next=_;rw[iU,cr rfl];rfl
  clear Bz
  have ziV:=zaR ir ((kr.objs m qV).trans hm) rfl he0
  have rr:=(kr.objs lp hl).trans aC
  have mr:=(kr.objs m qV).trans hm
  have lD:=hA.same kr
  have It:lp<Hr.next:=by omega
  have EC:m<Hr.next:=by omega
  refine MN (MO rfl ?_)
  simp(disch:=omega)only[↓aa,ab,simprocAttr,sa,zaQ, *]
  refine ao Hr (oM _ ah lD p kh) ?_
  intro H2 k2 l2 n2 g2 q2
  simp(disch:=omega)only[↓aa,ab,simprocAttr,sa,bO, *]
  have ur:=zba s.words p
  have hL:jm s.words ks p=(List.range (aU s.words p).fields.toNat).all (fun k=>fx ks (jl s.words p k false)):=rfl
  generalize hnf:(aU s.words p).fields.toNat=nf at hL
  have zbc:(aU s.words p).fields=nf:=by omega
  rw[zbc]
  refine Aj (fun T5 H5 eT eH=>?_)
  have k5:Ko Hr H5:=by rw[eH];exact aj
  have n5:=k5.ag
  have l5:H5.lo=Hr.lo:=by rw[eH];simp(disch:=omega)only[↓aa,ab,simprocAttr,sa, *]
  have u28:T5.get 28=some (.int .i64 nf):=by rw[eT];simp(disch:=omega)only[↓aa,ab,simprocAttr]
  have OI:T5.get 29=some (.int .i64 0):=by rw[eT];simp(disch:=omega)only[↓aa,ab,simprocAttr]
  have u0:T5.get 0=some (ptr lp 0):=by rw[eT];simp(disch:=omega)only[↓aa,ab,simprocAttr,f0]
  have u3:T5.get 3=some (.int .i64 p):=by rw[eT];simp(disch:=omega)only[↓aa,ab,simprocAttr]
  clear eT eH
  refine bL kq (fun nn T X=>∃ j:Nat,nn=nf-j∧j≤nf∧T.get 29=some (.int .i64 j)∧T.get 28=some (.int .i64 nf)∧T.get 0=some (ptr lp 0)∧T.get 3=some (.int .i64 p)∧Ko Hr X∧X.lo=Hr.lo∧∀ k:Nat,k<j→fx ks (jl s.words p k false)=true) ⟨_,0,rfl,wJ _,OI,u28,u0,u3,k5,l5,fun k hk=>absurd hk (by omega)⟩ ?_
  rintro nn T X ⟨j,rfl,hj,v29,v28,v0,v3,kX,lX,cF⟩ Qs hQ aG ai
  have nX:=kX.ag
  have rX:=(kX.objs lp It).trans rr
  have mX:=(kX.objs m EC).trans mr
  have AX:=lD.same kX
  by_cases hlt:j<nf
  ·have fS:=lD.za9 p j false
   have fX:=fun(H0:Heap) (h0:H0.lo≤H0.next) (k:Ko Hr H0)=>OF H0 h0 ((k.objs lp It).trans rr) rfl ((k.objs m EC).trans mr) (wq It k.ag) (wq EC k.ag) (jl s.words p j false) fS
   cases fC:fx ks (jl s.words p j false)with
   |false=>
    have hz:jm s.words ks p=false:=by
     rw[hL,wcD]
     exact⟨j,wcc.2 hlt,by rw[fC];simp⟩
    have ug:jm s.words ks (keyOf (.int .i64 p,.bool true))=false:=hz
    repeat'(first|(apply ak<;>intro)|((with_reducible show af _ _ _ _ _);(first|refine ao X (Ot _ ah (AX.same aj) p kh j) ?_|refine ao X (fX _ ah aj) ?_);intro H2 k2 l2 n2 g2 q2;try simp(disch:=omega)only[sm,sl]at l2 n2 g2 q2)|((with_reducible show Qs _ _ _ _ _);first|refine ai _ _ _ _ ?_|refine aG _ _ _ ?_)|simp(disch:=omega)only[↓aa,ab,simprocAttr,sa, *])
    all_goals try omega
   |true=>
    repeat'(first|(apply ak<;>intro)|((with_reducible show af _ _ _ _ _);(first|refine ao X (Ot _ ah (AX.same aj) p kh j) ?_|refine ao X (fX _ ah aj) ?_);intro H2 k2 l2 n2 g2 q2;try simp(disch:=omega)only[sm,sl]at l2 n2 g2 q2)|((with_reducible show Qs _ _ _ _ _);refine ai _ _ _ _ ?_)|simp(disch:=omega)only[↓aa,ab,simprocAttr,sa, *])
    all_goals try omega
    refine hQ _ _ _ ?_ ⟨j+1,rfl,by omega,?_,?_,?_,?_,?_,?_,fun k hk=>?_⟩
    ·omega
    iterate 6 exact aJ
    ·by_cases e:k=j
     ·rw[e];exact fC
     ·exact cF k (by omega)
  ·have hz:jm s.words ks p=true:=by
    rw[hL,waC]
    intro k hk
    exact cF k (by have:=wcc.1 hk;omega)
   have ug:jm s.words ks (keyOf (.int .i64 p,.bool true))=true:=hz
   repeat'(first|(apply ak<;>intro)|((with_reducible show Qs _ _ _ _ _);refine ai _ _ _ _ ?_)|simp(disch:=omega)only[↓aa,ab,simprocAttr,sa, *])
   all_goals try omega
 ·intro cF
  generalize EB:dropAll _ T1=T0
  have hz:ks.all (jm s.words ks)=true:=by
   rw[waC]
   intro p hp
   have:=cF (.int .i64 p,.bool true) (wbG.2 ⟨p,hp,rfl⟩)
   simpa[keyOf]using this
  have sD:aq H {objs:=H1.objs.del H.next,grps:=H1.grps,next:=H1.next,lo:=H1.lo}:=Nt sH (wy _) rfl rfl rfl
  generalize ({objs:=H1.objs.del H.next,grps:=H1.grps,next:=H1.next,lo:=H1.lo}:Heap)=HD at sD
  refine MN (MO rfl ?_)
  simp(disch:=omega)only[↓aa,ab,simprocAttr,sa, *]
  exact fun h=>by cases h
 ·rintro⟨e,he,iW⟩ T' h2 Az
  have hz:ks.all (jm s.words ks)=false:=by
   obtain⟨p,hp,rfl⟩:=wbG.1 he
   rw[wcD]
   refine⟨p,hp,?_⟩
   simpa[keyOf]using iW
  have sD:aq H {objs:=H1.objs.del H.next,grps:=H1.grps,next:=H1.next,lo:=H1.lo}:=Nt sH (wy _) rfl rfl rfl
  generalize ({objs:=H1.objs.del H.next,grps:=H1.grps,next:=H1.next,lo:=H1.lo}:Heap)=HD at sD
  simp(disch:=omega)only[↓aa,ab,simprocAttr,sa, *]
def gK(s:St):List Int:=s.table.foldl By (sE s)
def jN(s:St):Nat→Bool
 |0=>decide s.cfg.Ok
 |1=>decide ((s.words.length:Int)=s.cfg.words)
 |2=>decide (oo s)
 |3=>decide ((cP s).2=0)
 |4=>(cP s).1.all (jL s)
 |5=>hU s
 |6=>nh s.aI s.cfg.aI
 |7=>(gK s).all (jm s.words (gK s))
 |_=>s.aI.all (iL (gK s))
def sF(s:St)(i:Nat):Nat→Int
 |0=>0
 |n+1=>if jN s i then sF s (i+1) n else(i:Int)+1
def dR(s:St):Int:=sF s 0 9
def yY:List Value:=[aK 193,aK 194,aK 195,aK 196,aK 197,aK 198,aK 199,aK 200,aK 201]
structure nj(s:St):Prop where
 words:∀ x∈s.words,x<2^64
 aI:∀ x∈s.aI,x.word<2^64
 table:s.table.length≤100000
structure qW(H X:Heap)(lp rr:Nat):Prop where
 ko:Ko H X
 lo:X.lo=H.lo
 l1:H.next≤lp
 l2:lp<X.next
 r1:H.next≤rr
 r2:rr<X.next
 row:X.objs.get rr=some (.row yY none true)
 ne:rr≠lp
theorem qW.same{H X Y:Heap}{lp rr:Nat}(b:qW H X lp rr)(s:aq X Y):qW H Y lp rr:=
 ⟨b.ko.call s,s.lo.trans b.lo,b.l1,wq b.l2 s.ag,b.r1,wq b.r2 s.ag,s.keeps b.r2 b.row,b.ne⟩
theorem qW.iI{H X Y:Heap}{lp rr k:Nat}(b:qW H X lp rr)(s:eL k X Y)(hl:Y.lo=X.lo)(hk:H.next≤k)(hr:rr≠k):qW H Y lp rr:=by
 have h1:=b.ko;have h2:=h1.ag;have h3:=s.ag
 exact⟨⟨by omega,fun x hx=>(s.objs x (by omega) (by omega)).trans (h1.objs x hx),fun x hx=>(s.grps x (by omega)).trans (h1.grps x hx)⟩,hl.trans b.lo,b.l1,by have:=b.l2;omega,b.r1,by have:=b.r2;omega,(s.objs rr b.r2 hr).trans b.row,b.ne⟩
theorem eK.ko{H X:Heap}{s:St}{w t f zl:Value}(h:eK H s w t f zl)(k:Ko H X):eK X s w t f zl:=⟨h.w.ko RW.mono k,h.t.ko bD.mono k,h.f.ko bD.mono k,h.sl.ko qS.mono k⟩
theorem Lk.same{H X:Heap}{lp a rw m:Nat}{s:St}{w t f zl dK:Value}{dE ks:List Int}(h:Lk H lp s w t f zl a rw m dK dE ks)(hl:lp<H.next)(k:aq H X):Lk X lp s w t f zl a rw m dK dE ks:=
 ⟨k.keeps hl h.row,h.ar.same k.ko,h.small.ko (fun _ _ _ _ _ h=>h) k.ko,k.keeps h.lm h.map,wq h.lm k.ag⟩
def oq(H:Heap)(lp:Nat)(s:St)(w t f zl:Value)(i:Nat)(X:Heap):Prop:=
 if i≤3 then X.objs.get lp=some (.row (gm s w t f zl (.pointer none) (.slice none 0 0) (.map none)) none true)
 else ∃a rw m dK,Lk X lp s w t f zl a rw m dK (cP s).1 (if i≤5 then sE s else gK s)∧H.next≤m
theorem zbd(s:St)(hw:s.words.length≤9223372036854775807)(hr:hU s=true):∀ x∈gK s, -9223372036854775808≤x∧x≤9223372036854775807:=by
 have hs:∀ (l:List Int) (ks:List Int),(∀x∈ks, -9223372036854775808≤x∧x≤9223372036854775807)→(∀x∈l, -9223372036854775808≤x∧x≤9223372036854775807)→∀ x∈l.foldl oN ks, -9223372036854775808≤x∧x≤9223372036854775807:=by
  intro l
  induction l with
  |nil=>intro ks h _;exact h
  |cons y l ih=>
   intro ks h h2
   refine ih _ (fun x hx=>?_) fun x hx=>h2 x (wM _ hx)
   unfold oN at hx
   split at hx
   ·exact h x hx
   ·rcases waI.1 hx with hx|hx
    ·exact h x hx
    ·rw[waG]at hx;subst hx;exact h2 _ (wW ..)
 have e:gK s=(s.table.map (·.ae)).foldl oN (sE s):=by unfold gK By;rw[List.foldl_map]
 rw[e]
 have hR:jK s.cfg.jk s.table s.free=true:=by unfold hU at hr;rw[wA]at hr;exact hr.1
 have uq:fG s.cfg.jk none s.table=true:=by unfold jK at hR;rw[wA]at hR;exact hR.1
 obtain⟨cf, -, -⟩:=uo uq
 refine hs _ _ (hs _ _ (fun x h=>by cases h) fun x hx=>?_) fun x hx=>?_
 ·have:=Bx s x hx
  omega
 ·obtain⟨y,hy,rfl⟩:=wbG.1 hx
  have:=(cf y hy).1
  unfold bt at this
  omega
theorem zbe{α:Type}{R:Heap→List Value→α→Prop}{z:Nat}{H:Heap}{v:Value}{l:List α}(h:SLr R z H v l):l.length≤9223372036854775807:=by
 obtain⟨⟨_,_,_,⟨_,h⟩,_⟩,_⟩:=h
 exact h
theorem zbf{H X:Heap}{lp rr:Nat}{s:St}{w t f zl:Value}(an:H.lo≤H.next)(oP:eK H s w t f zl)(cd:nj s)(i:Nat)(hi:i<9)(hg:oq H lp s w t f zl i X)(b:qW H X lp rr)(cF:∀ k,k<i→jN s k=true):
  af E (yY.getD i .nilFunc) [ptr lp 0] X fun r X'=>r= .bool (jN s i)∧qW H X' lp rr∧(jN s i=true→oq H lp s w t f zl (i+1) X'):=by
 have hS:=oP.ko b.ko
 have hn:=b.ko.ag
 have hX:X.lo≤X.next:=by have:=b.lo;omega
 have fS:=zbe oP.w
 have oL:X.lo≤lp:=by have:=b.lo;have:=b.l1;omega
 have aT:i≤3→X.objs.get lp=some (.row (gm s w t f zl (.pointer none) (.slice none 0 0) (.map none)) none true):=fun h=>by unfold oq at hg;rw[wF h]at hg;exact hg
 have new:¬ i≤3→∃ a rw m dK,Lk X lp s w t f zl a rw m dK (cP s).1 (if i≤5 then sE s else gK s)∧H.next≤m:=fun h=>by unfold oq at hg;rw[wI h]at hg;exact hg
 have cJ:∀ (i:Nat) (X':Heap),aq X X'→i≠3→i≠5→oq H lp s w t f zl i X→oq H lp s w t f zl (i+1) X':=by
  intro i X' sX h3 h5 hg
  unfold oq at hg⊢
  by_cases h:i≤3
  ·rw[wF h]at hg
   rw[wF (by omega)]
   exact sX.keeps b.l2 hg
  ·rw[wI h]at hg
   rw[wI (by omega)]
   obtain⟨a,rw,m,dK,h1,h2⟩:=hg
   refine⟨a,rw,m,dK,?_,h2⟩
   have:(if i+1≤5 then sE s else gK s)=(if i≤5 then sE s else gK s):=by
    by_cases h6:i+1≤5
    ·rw[wF h6,wF (by omega)]
    ·rw[wI h6,wI (by omega)]
   rw[this]
   exact h1.same b.l2 sX
 match i,hi with
 |0,_=>
  refine(zaV X hX (aT (by omega)) b.l2).mono ?_
  rintro r X' ⟨rfl,sX⟩
  exact⟨rfl,b.same sX,fun _=>cJ 0 X' sX (by omega) (by omega) hg⟩
 |1,_=>
  refine(zaW X hX (aT (by omega)) b.l2 hS).mono ?_
  rintro r X' ⟨rfl,sX⟩
  exact⟨rfl,b.same sX,fun _=>cJ 1 X' sX (by omega) (by omega) hg⟩
 |2,_=>
  refine(zaX X hX (aT (by omega)) b.l2).mono ?_
  rintro r X' ⟨rfl,sX⟩
  exact⟨rfl,b.same sX,fun _=>cJ 2 X' sX (by omega) (by omega) hg⟩
 |3,_=>
  have c0:s.cfg.Ok:=wap (cF 0 (by omega))
  have c1:(s.words.length:Int)=s.cfg.words:=wap (cF 1 (by omega))
  have c2:oo s:=wap (cF 2 (by omega))
  refine(za1 X hX (aT (by omega)) b.l2 oL rfl rfl hS c0 c1 cd.words c2).mono ?_
  rintro r X' ⟨rfl,sB,a,rw,m,dK,hk,h1,h2,h3⟩
  have sK:eL lp X X':=⟨sB.ag,sB.objs,sB.grps⟩
  refine⟨rfl,b.iI sK sB.lo b.l1 b.ne,fun _=>?_⟩
  unfold oq
  rw[wI (by omega)]
  exact⟨a,rw,m,dK,hk,by omega⟩
 |4,_=>
  obtain⟨a,rw,m,dK,hk,hm⟩:=new (by omega)
  refine(za3 X hX hk b.l2 fun x hx=>by have:=Bx s x hx;omega).mono ?_
  rintro r X' ⟨rfl,sX⟩
  exact⟨rfl,b.same sX,fun _=>cJ 4 X' sX (by omega) (by omega) hg⟩
 |5,_=>
  obtain⟨a,rw,m,dK,hk,hm⟩:=new (by omega)
  refine(za5 X hX hk b.l2 hS (by have:=b.lo;omega) cd.table).mono ?_
  rintro r X' ⟨rfl,sK,eS,yJ⟩
  have Ip:rr≠m:=fun e=>by have h1:=b.row;have h2:=hk.map;rw[e,h2]at h1;cases h1
  have Iq:lp≠m:=fun e=>by have h1:=hk.row;have h2:=hk.map;rw[e,h2]at h1;cases h1
  have Ir:a≠m:=fun e=>by have h1:=hk.ar.box;have h2:=hk.map;rw[e,h2]at h1;cases h1
  have ne4:rw≠m:=fun e=>by have h1:=hk.ar.row;have h2:=hk.map;rw[e,h2]at h1;cases h1
  refine⟨rfl,b.iI sK eS hm Ip,fun hT=>?_⟩
  unfold oq
  rw[wI (by omega)]
  refine⟨a,rw,m,dK,⟨(sK.objs lp b.l2 Iq).trans hk.row,hk.ar.iI sK Ir ne4,?_,yJ hT,wq hk.lm sK.ag⟩,hm⟩
  obtain⟨⟨iK,sc,rfl,hc,hl⟩,hr⟩:=hk.small
  refine⟨⟨iK,sc,rfl,hc,fun i x hx=>?_⟩,fun a' n c e=>?_⟩
  ·obtain⟨r,o,cells,g,t',part,h1,h2,h3,h4,h5⟩:=hl i x hx
   have:r≠m:=fun e=>by have h2:=hk.map;rw[e,h2]at h3;cases h3
   exact⟨r,o,cells,g,t',part,h1,wq h2 sK.ag,(sK.objs r h2 this).trans h3,h4,h5⟩
  ·rcases hr a' n c e with h|⟨r,cells,g,t',h1,h2,h3⟩
   ·exact .inl h
   ·have:r≠m:=fun e=>by have h2:=hk.map;rw[e,h2]at h3;cases h3
    exact .inr ⟨r,cells,g,t',h1,wq h2 sK.ag,(sK.objs r h2 this).trans h3⟩
 |6,_=>
  obtain⟨a,rw,m,dK,hk,hm⟩:=new (by omega)
  refine(zaY X hX hk.row b.l2 hS cd.aI).mono ?_
  rintro r X' ⟨rfl,sX⟩
  exact⟨rfl,b.same sX,fun _=>cJ 6 X' sX (by omega) (by omega) hg⟩
 |7,_=>
  obtain⟨a,rw,m,dK,hk,hm⟩:=new (by omega)
  have hk:Lk X lp s w t f zl a rw m dK (cP s).1 (gK s):=hk
  refine(zbb X hX hk b.l2 (zbd s fS (cF 5 (by omega)))).mono ?_
  rintro r X' ⟨rfl,sX⟩
  exact⟨rfl,b.same sX,fun _=>cJ 7 X' sX (by omega) (by omega) hg⟩
 |8,_=>
  obtain⟨a,rw,m,dK,hk,hm⟩:=new (by omega)
  have hk:Lk X lp s w t f zl a rw m dK (cP s).1 (gK s):=hk
  refine(za4 X hX hk b.l2 hS cd.aI).mono ?_
  rintro r X' ⟨rfl,sX⟩
  exact⟨rfl,b.same sX,fun _=>cJ 8 X' sX (by omega) (by omega) hg⟩
def cz(s:St)(w t f zl:Value):Value:= .agg #[.int .i64 s.cfg.eP,.int .i64 s.cfg.fp,.int .i64 s.cfg.aI,.int .i64 s.cfg.gV,.bool s.second,w,.int .i64 s.top,t,f,zl]
theorem zbh(f:Fn)(a b:Array Value):isCell (.func f a b)=true:=wE rfl rfl
theorem zbi(f:Fn)(a b:Array Value):cg (.func f a b)=[.func f a b]:=wE rfl rfl
theorem zbj(H:Heap)(an:H.lo≤H.next):af E (aK 141) [] H fun r H'=>r= .slice (some ⟨H.next,0,none⟩) 9 9∧H'=H.newRow yY:=by
 refine aV Tryz.f141 ?_
 simp only[Tryz.f141]
 simp(disch:=omega)only[↓aa,ab,simprocAttr,sa,cw,iG,dW,wL,wat,wY,waA,waV,waZ,zbi,zbh, *]
 rfl
theorem OL(s:St){i:Nat}(hi:i<9)(h:∀ k,k<i→jN s k=true)(hb:jN s i=false):dR s=(i:Int)+1:=by
 have key:∀ n k,k+n=9→k≤i→sF s k n=(i:Int)+1:=by
  intro n
  induction n with
  |zero=>intro k h1 h2;omega
  |succ n ih=>
   intro k h1 h2
   by_cases e:k=i
   ·subst e;unfold sF;rw[hb];rfl
   ·unfold sF;rw[wF (h k (by omega))];exact ih (k+1) (by omega) (by omega)
 exact key 9 0 rfl (wJ _)
theorem OM(s:St)(h:∀ k,k<9→jN s k=true):dR s=0:=by
 have key:∀ n k,k+n=9→sF s k n=0:=by
  intro n
  induction n with
  |zero=>intro k _;rfl
  |succ n ih=>intro k h1;unfold sF;rw[wF (h k (by omega))];exact ih (k+1) (by omega)
 exact key 9 0 rfl
theorem zbk{i:Nat}(h:i<9):yY[i]? =some (yY.getD i .nilFunc):=by
 rw[wav,wj (show i<yY.length from h)];rfl
theorem zbl(H:Heap)(an:H.lo≤H.next){s:St}{w t f zl:Value}(hS:eK H s w t f zl)(cd:nj s):af E (aK 102) [cz s w t f zl] H fun r H'=>∃ lp,r= .tuple #[ptr lp 0,.int .i64 (dR s)]∧H.next≤lp∧lp<H'.next∧aq H H'∧(dR s=0→∃ a rw m dK,Lk H' lp s w t f zl a rw m dK (cP s).1 (gK s)):=by
 have oP:=hS
 obtain⟨⟨wa,wc,rfl,_⟩,_⟩:=hS.w
 obtain⟨⟨ta,tc,rfl,_⟩,_⟩:=hS.t
 obtain⟨⟨fa,fc,rfl,_⟩,_⟩:=hS.f
 obtain⟨⟨iK,sc,rfl,_⟩,_⟩:=hS.sl
 refine aV Tryz.f102 ?_
 simp only[Tryz.f102]
 simp only[cz]
 simp(disch:=omega)only[↓aa,ab,simprocAttr,sa, *]
 refine(zbj _ ah).mono ?_
 rintro v H2 ⟨rfl,rfl⟩
 simp(disch:=omega)only[↓aa,ab,simprocAttr,sa, *]
 refine Aj (fun T1 H1 eT eH=>?_)
 have b1:qW H H1 (H.next+1) (H.next+1+1):=by
  refine⟨by rw[eH];exact aj,by rw[eH];simp(disch:=omega)only[ay,aN,az,aF,aE,aB,aM,aO,aQ,aP,aL,aD,aH,au,sl],by omega,by rw[eH];simp(disch:=omega)only[ay,aN,az,aF,aE,aB,aM,aO,aQ,aP,aL,aD,aH,au,sl];omega,by omega,by rw[eH];simp(disch:=omega)only[ay,aN,az,aF,aE,aB,aM,aO,aQ,aP,aL,aD,aH,au,sl];omega,by rw[eH];simp(disch:=omega)only[ay,aN,az,aF,aE,aB,aM,aO,aQ,aP,aL,aD,aH,au,sl],by omega⟩
 have g1:oq H (H.next+1) s (.slice wa s.words.length wc) (.slice ta s.table.length tc) (.slice fa s.free.length fc) (.slice iK s.aI.length sc) 0 H1:=by
  unfold oq
  rw[wF (by omega),eH]
  simp(disch:=omega)only[ay,aN,az,aF,aE,aB,aM,aO,aQ,aP,aL,aD,aH,au,sl,gm]
 have t10:T1.get 10=some (.slice (some ⟨H.next+1+1,0,none⟩) 9 9):=by rw[eT];simp(disch:=omega)only[↓aa,ab,simprocAttr]
 have t11:T1.get 11=some (.int .i64 9):=by rw[eT];simp(disch:=omega)only[↓aa,ab,simprocAttr];try rfl
 have t12:T1.get 12=some (.int .i64 0):=by rw[eT];simp(disch:=omega)only[↓aa,ab,simprocAttr]
 have t4:T1.get 4=some (ptr (H.next+1) 0):=by rw[eT];simp(disch:=omega)only[↓aa,ab,simprocAttr]
 clear eT eH
 refine bL kq (fun nn T X=>∃ i:Nat,nn=9-i∧i≤9∧T.get 12=some (.int .i64 i)∧T.get 10=some (.slice (some ⟨H.next+1+1,0,none⟩) 9 9)∧T.get 11=some (.int .i64 9)∧T.get 4=some (ptr (H.next+1) 0)∧qW H X (H.next+1) (H.next+1+1)∧
  oq H (H.next+1) s (.slice wa s.words.length wc) (.slice ta s.table.length tc) (.slice fa s.free.length fc) (.slice iK s.aI.length sc) i X∧∀ k,k<i→jN s k=true) ⟨_,0,rfl,wJ _,t12,t10,t11,t4,b1,g1,fun k h=>absurd h (by omega)⟩ ?_
 rintro nn T X ⟨i,rfl,hi,u12,u10,u11,u4,bX,gX,cF⟩ Qs hQ aG ai
 have rX:=bX.row
 have lX:=bX.lo
 have lrX:=bX.r2
 by_cases hlt:i<9
 ·have a1:at? (i:Int) 9=some i:=bn hlt
  have hk:=zbk hlt
  repeat'(first|(apply ak<;>intro)|((with_reducible show Qs _ _ _ _ _);refine ai _ _ _ _ ?_)|simp(disch:=omega)only[↓aa,ab,simprocAttr,sa, *])
  all_goals try omega
  refine(zbf an oP cd i hlt gX bX cF).mono ?_
  rintro r X2 ⟨rfl,bY,gY⟩
  have lY:=bY.lo
  cases hb:jN s i with
  |true=>
   simp(disch:=omega)only[↓aa,ab,simprocAttr,sa, *]
   refine hQ _ _ _ ?_ ⟨i+1,rfl,by omega,?_,?_,?_,?_,bY,gY hb,fun k hk=>?_⟩
   ·omega
   iterate 4 exact aJ
   ·by_cases e:k=i
    ·rw[e];exact hb
    ·exact cF k (by omega)
  |false=>
   have hc:=OL s hlt cF hb
   repeat'(first|((with_reducible show Qs _ _ _ _ _);refine aG _ _ _ ?_)|simp(disch:=omega)only[↓aa,ab,simprocAttr,sa, *])
   exact⟨H.next+1,rfl,by omega,bY.l2,Ko.same bY.ko lY,fun h=>by omega⟩
 ·have e9:i=9:=by omega
  subst e9
  have hc:=OM s cF
  repeat'(first|((with_reducible show Qs _ _ _ _ _);refine ai _ _ _ _ ?_)|simp(disch:=omega)only[↓aa,ab,simprocAttr,sa, *])
  all_goals try omega
  refine⟨H.next+1,rfl,by omega,bX.l2,Ko.same bX.ko lX,fun _=>?_⟩
  unfold oq at gX
  rw[wI (by omega)]at gX
  obtain⟨a,rw,m,dK,hk,_⟩:=gX
  exact⟨a,rw,m,dK,hk⟩
theorem v9{n:Nat}(h:n<18446744073709551616):IntKind.u64.wrap (n:Int)=n:=yC .u64 _ (wco _) (by show(n:Int)≤18446744073709551615;omega)
theorem zfy{n:Int}(h:9223372036854775808≤n∧n<18446744073709551616):IntKind.i64.wrap n=n-18446744073709551616:=by
 show(if(true&&decide (n%(2^64:Int)≥(2^63:Int)))=true then n%(2^64:Int)-(2^64:Int)else n%(2^64:Int))=_
 rw[wa9,wF (wz (by omega))]
 omega
theorem iu(H:Heap)(an:H.lo≤H.next)(x:Span):af E (aK 127) [bh x] H fun r H'=>r= .bool (decide (bt x))∧aq H H':=by
 refine aV Tryz.f127 ?_
 simp only[Tryz.f127]
 simp only[bh]
 repeat'(first|(apply ak<;>intro)|simp(disch:=omega)only[↓aa,ab,simprocAttr,sa, *])
 all_goals first|exact aA|((with_reducible show _∧_);exact⟨eZ (by simp only[wT,wG,wbh,wa5,bt];first|omega|(simp[*]<;>omega)),aA⟩)
theorem rf(H:Heap)(an:H.lo≤H.next)(x:Span)(a:Int):af E (aK 232) [bh x,.int .i64 a] H fun r H'=>r= .bool (decide (bt x∧x.ae≤a∧a≤x.ae+x.size-1))∧aq H H':=by
 refine aV Tryz.f232 ?_
 simp only[Tryz.f232]
 simp only[bh]
 by_cases hm:bt x
 ·have eC:=hm
  unfold bt at eC
  repeat'(first|(apply ak<;>intro)|((with_reducible show af _ _ _ _ _);refine ao H (iu _ ah x) ?_;intro H2 k2 l2 n2 g2 q2;try simp(disch:=omega)only[sm,sl]at l2 n2 g2 q2)|simp(disch:=omega)only[↓aa,ab,simprocAttr,sa,wz hm, *])
  all_goals first|exact aA|((with_reducible show _∧_);exact⟨eZ (by simp only[wT,wG,wbh,wa5,hm];first|omega|(simp[*]<;>omega)),aA⟩)
 ·repeat'(first|((with_reducible show af _ _ _ _ _);refine ao H (iu _ ah x) ?_;intro H2 k2 l2 n2 g2 q2;try simp(disch:=omega)only[sm,sl]at l2 n2 g2 q2)|simp(disch:=omega)only[↓aa,ab,simprocAttr,sa,wx hm, *])
  all_goals first|exact aA|((with_reducible show _∧_);exact⟨eZ (by simp only[wT,wG,wbh,wa5,hm];first|omega|(simp[*]<;>omega)),aA⟩)
theorem Pq(H:Heap)(an:H.lo≤H.next)(x y:Span):af E (aK 233) [bh x,bh y] H fun r H'=>r= .bool (decide (km x y))∧aq H H':=by
 refine aV Tryz.f233 ?_
 simp only[Tryz.f233]
 simp only[bh]
 by_cases hm:bt x∧bt y
 ·have eC:=hm
  unfold bt at eC
  obtain⟨m1,m2⟩:=hm
  by_cases h1:bt x∧x.ae≤y.ae∧y.ae≤x.ae+x.size-1
  ·repeat'(first|((with_reducible show af _ _ _ _ _);(first|refine ao H (iu _ ah x) ?_|refine ao H (iu _ ah y) ?_|refine ao H (rf _ ah x _) ?_);intro H2 k2 l2 n2 g2 q2;try simp(disch:=omega)only[sm,sl]at l2 n2 g2 q2)|simp(disch:=omega)only[↓aa,ab,simprocAttr,sa,wz m1,wz m2,wz h1, *])
   all_goals first|exact aA|((with_reducible show _∧_);exact⟨eZ (by simp only[wT,wG,wbh,wa5,m1,m2,km,Span.stop];first|omega|(simp[*]<;>omega)),aA⟩)
  ·repeat'(first|(apply ak<;>intro)|apply bw|((with_reducible show af _ _ _ _ _);(first|refine ao H (iu _ ah x) ?_|refine ao H (iu _ ah y) ?_|refine ao H (rf _ ah x _) ?_|refine ao H (rf _ ah y _) ?_);intro H2 k2 l2 n2 g2 q2;try simp(disch:=omega)only[sm,sl]at l2 n2 g2 q2)|simp(disch:=omega)only[↓aa,ab,simprocAttr,sa,wz m1,wz m2,wx h1, *])
   simp only[m1,wbT]at h1
   all_goals first|exact aA|((with_reducible show _∧_);exact⟨eZ (by simp only[wT,wG,wbh,wa5,m1,m2,km,Span.stop];first|omega|(simp[*]<;>omega)),aA⟩)
 ·by_cases m1:bt x
  ·have m2:¬ bt y:=fun h=>hm ⟨m1,h⟩
   repeat'(first|((with_reducible show af _ _ _ _ _);(first|refine ao H (iu _ ah x) ?_|refine ao H (iu _ ah y) ?_);intro H2 k2 l2 n2 g2 q2;try simp(disch:=omega)only[sm,sl]at l2 n2 g2 q2)|simp(disch:=omega)only[↓aa,ab,simprocAttr,sa,wz m1,wx m2, *])
   all_goals first|exact aA|((with_reducible show _∧_);exact⟨eZ (by simp only[wT,wG,wbh,wa5,m1,m2,km];first|omega|(simp[*]<;>omega)),aA⟩)
  ·repeat'(first|((with_reducible show af _ _ _ _ _);refine ao H (iu _ ah x) ?_;intro H2 k2 l2 n2 g2 q2;try simp(disch:=omega)only[sm,sl]at l2 n2 g2 q2)|simp(disch:=omega)only[↓aa,ab,simprocAttr,sa,wx m1, *])
   all_goals first|exact aA|((with_reducible show _∧_);exact⟨eZ (by simp only[wT,wG,wbh,wa5,m1,km];first|omega|(simp[*]<;>omega)),aA⟩)
theorem EM(H:Heap)(an:H.lo≤H.next)(x y:Span):af E (aK 186) [bh x,bh y] H fun r H'=>r= .bool (decide (lB x y))∧aq H H':=by
 refine aV Tryz.f186 ?_
 simp only[Tryz.f186]
 simp only[bh]
 by_cases hm:bt x∧bt y
 ·have eC:=hm
  unfold bt at eC
  obtain⟨m1,m2⟩:=hm
  by_cases h1:bt y∧y.ae≤x.ae∧x.ae≤y.ae+y.size-1
  ·repeat'(first|((with_reducible show af _ _ _ _ _);(first|refine ao H (iu _ ah x) ?_|refine ao H (iu _ ah y) ?_|refine ao H (rf _ ah y _) ?_);intro H2 k2 l2 n2 g2 q2;try simp(disch:=omega)only[sm,sl]at l2 n2 g2 q2)|simp(disch:=omega)only[↓aa,ab,simprocAttr,sa,wz m1,wz m2,wz h1, *])
   all_goals first|exact aA|((with_reducible show _∧_);exact⟨eZ (by simp only[wT,wG,wbh,wa5,m1,m2,lB,Span.stop];first|omega|(simp[*]<;>omega)),aA⟩)
  ·repeat'(first|(apply ak<;>intro)|((with_reducible show af _ _ _ _ _);(first|refine ao H (iu _ ah x) ?_|refine ao H (iu _ ah y) ?_|refine ao H (rf _ ah y _) ?_);intro H2 k2 l2 n2 g2 q2;try simp(disch:=omega)only[sm,sl]at l2 n2 g2 q2)|simp(disch:=omega)only[↓aa,ab,simprocAttr,sa,wz m1,wz m2,wx h1, *])
   simp only[m2,wbT]at h1
   all_goals first|exact aA|((with_reducible show _∧_);exact⟨eZ (by simp only[wT,wG,wbh,wa5,m1,m2,lB,Span.stop];first|omega|(simp[*]<;>omega)),aA⟩)
 ·by_cases m1:bt x
  ·have m2:¬ bt y:=fun h=>hm ⟨m1,h⟩
   repeat'(first|((with_reducible show af _ _ _ _ _);(first|refine ao H (iu _ ah x) ?_|refine ao H (iu _ ah y) ?_);intro H2 k2 l2 n2 g2 q2;try simp(disch:=omega)only[sm,sl]at l2 n2 g2 q2)|simp(disch:=omega)only[↓aa,ab,simprocAttr,sa,wz m1,wx m2, *])
   all_goals first|exact aA|((with_reducible show _∧_);exact⟨eZ (by simp only[wT,wG,wbh,wa5,m1,m2,lB];first|omega|(simp[*]<;>omega)),aA⟩)
  ·repeat'(first|((with_reducible show af _ _ _ _ _);refine ao H (iu _ ah x) ?_;intro H2 k2 l2 n2 g2 q2;try simp(disch:=omega)only[sm,sl]at l2 n2 g2 q2)|simp(disch:=omega)only[↓aa,ab,simprocAttr,sa,wx m1, *])
   all_goals first|exact aA|((with_reducible show _∧_);exact⟨eZ (by simp only[wT,wG,wbh,wa5,m1,lB];first|omega|(simp[*]<;>omega)),aA⟩)
theorem pT(H:Heap)(an:H.lo≤H.next)(c:cj):af E (aK 84) [cm c] H fun r H'=>r= .bool (decide c.Ok)∧aq H H':=by
 refine aV Tryz.f84 ?_
 simp only[Tryz.f84]
 simp only[cm]
 repeat'(first|(apply ak<;>intro)|apply bw|simp(disch:=omega)only[↓aa,ab,simprocAttr,sa, *])
 all_goals first|exact aA|((with_reducible show _∧_);exact⟨eZ (by simp only[wT,wG,wbh,wa5,cj.Ok];first|omega|(simp[*]<;>omega)),aA⟩)
theorem IK(H:Heap)(an:H.lo≤H.next)(c:cj):af E (aK 85) [cm c] H fun r H'=>r= .int .i64 c.words∧aq H H':=by
 refine aV Tryz.f85 ?_
 simp only[Tryz.f85]
 simp only[cm]
 repeat'(first|(refine ak (fun hd=>?_) (fun hd=>?_)<;>try simp only[cj.Ok]at hd)|apply bw|((with_reducible show af _ _ _ _ _);refine ao H (pT _ ah c) ?_;intro H2 k2 l2 n2 g2 q2;try simp(disch:=omega)only[sm,sl]at l2 n2 g2 q2)|simp(disch:=omega)only[↓aa,ab,simprocAttr,sa, *])
 all_goals(first|(with_reducible exact aA)|((with_reducible show _∧_);exact⟨by first|rfl|(simp[cj.words,cj.Ok, *]<;>omega),aA⟩))
theorem zfz(H:Heap)(an:H.lo≤H.next)(c:cj):af E (aK 126) [cm c,.int .i64 0] H fun r H'=>r=bh (c.dz false)∧aq H H':=by
 refine aV Tryz.f126 ?_
 simp only[Tryz.f126]
 simp only[cm]
 repeat'(first|(refine ak (fun hd=>?_) (fun hd=>?_)<;>try simp only[cj.Ok]at hd)|apply bw|((with_reducible show af _ _ _ _ _);refine ao H (pT _ ah c) ?_;intro H2 k2 l2 n2 g2 q2;try simp(disch:=omega)only[sm,sl]at l2 n2 g2 q2)|simp(disch:=omega)only[↓aa,ab,simprocAttr,sa, *])
 all_goals(first|(with_reducible exact aA)|((with_reducible show _∧_);exact⟨by first|rfl|(simp[bh,cj.dz,cj.Ok, *]<;>omega),aA⟩))
theorem zfA(H:Heap)(an:H.lo≤H.next)(c:cj):af E (aK 126) [cm c,.int .i64 1] H fun r H'=>r=bh (c.dz true)∧aq H H':=by
 refine aV Tryz.f126 ?_
 simp only[Tryz.f126]
 simp only[cm]
 repeat'(first|(refine ak (fun hd=>?_) (fun hd=>?_)<;>try simp only[cj.Ok]at hd)|apply bw|((with_reducible show af _ _ _ _ _);refine ao H (pT _ ah c) ?_;intro H2 k2 l2 n2 g2 q2;try simp(disch:=omega)only[sm,sl]at l2 n2 g2 q2)|simp(disch:=omega)only[↓aa,ab,simprocAttr,sa,Int.one_mul, *])
 all_goals(first|(with_reducible exact aA)|((with_reducible show _∧_);exact⟨by first|rfl|(simp[bh,cj.dz,cj.Ok, *]<;>omega),aA⟩))
theorem IL(H:Heap)(an:H.lo≤H.next)(c:cj)(b:Bool):af E (aK 86) [cm c,.bool b] H fun r H'=>r=bh (c.dz b)∧aq H H':=by
 refine aV Tryz.f86 ?_
 simp only[Tryz.f86]
 simp only[cm]
 cases b
 ·repeat'(first|((with_reducible show af _ _ _ _ _);refine ao H (zfz _ ah c) ?_;intro H2 k2 l2 n2 g2 q2;try simp(disch:=omega)only[sm,sl]at l2 n2 g2 q2)|simp(disch:=omega)only[↓aa,ab,simprocAttr,sa,bh, *])
  all_goals exact xW
 ·repeat'(first|((with_reducible show af _ _ _ _ _);refine ao H (zfA _ ah c) ?_;intro H2 k2 l2 n2 g2 q2;try simp(disch:=omega)only[sm,sl]at l2 n2 g2 q2)|simp(disch:=omega)only[↓aa,ab,simprocAttr,sa,bh, *])
  all_goals exact xW
theorem Pr(H:Heap)(an:H.lo≤H.next)(c:cj):af E (aK 130) [cm c] H fun r H'=>r=bh c.jk∧aq H H':=by
 refine aV Tryz.f130 ?_
 simp only[Tryz.f130]
 simp only[cm]
 by_cases hc:c.Ok
 ·have D6:=hc
  unfold cj.Ok at D6
  repeat'(first|(apply ak<;>intro)|((with_reducible show af _ _ _ _ _);refine ao H (pT _ ah c) ?_;intro H2 k2 l2 n2 g2 q2;try simp(disch:=omega)only[sm,sl]at l2 n2 g2 q2)|simp(disch:=omega)only[↓aa,ab,simprocAttr,sa,wz hc, *])
  all_goals(first|(with_reducible exact aA)|((with_reducible show _∧_);exact⟨by first|rfl|(simp[bh,cj.jk,cj.yP,hc, *]<;>omega),aA⟩))
 ·repeat'(first|((with_reducible show af _ _ _ _ _);refine ao H (pT _ ah c) ?_;intro H2 k2 l2 n2 g2 q2;try simp(disch:=omega)only[sm,sl]at l2 n2 g2 q2)|simp(disch:=omega)only[↓aa,ab,simprocAttr,sa,wx hc, *])
  all_goals(first|(with_reducible exact aA)|((with_reducible show _∧_);exact⟨by first|rfl|(simp[bh,cj.jk,cj.yP,hc, *]<;>omega),aA⟩))
theorem EN(H:Heap)(an:H.lo≤H.next)(c:cj)(n:Int):af E (aK 89) [cm c,.int .i64 n] H fun r H'=>r= .bool (decide (c.Small n))∧aq H H':=by
 refine aV Tryz.f89 ?_
 simp only[Tryz.f89]
 simp only[cm]
 by_cases hc:c.Ok
 ·repeat'(first|(apply ak<;>intro)|((with_reducible show af _ _ _ _ _);refine ao H (pT _ ah c) ?_;intro H2 k2 l2 n2 g2 q2;try simp(disch:=omega)only[sm,sl]at l2 n2 g2 q2)|simp(disch:=omega)only[↓aa,ab,simprocAttr,sa,wz hc, *])
  all_goals first|exact aA|((with_reducible show _∧_);exact⟨eZ (by simp only[wT,wG,wbh,wa5,cj.Small,hc];first|omega|(simp[*]<;>omega)),aA⟩)
 ·repeat'(first|((with_reducible show af _ _ _ _ _);refine ao H (pT _ ah c) ?_;intro H2 k2 l2 n2 g2 q2;try simp(disch:=omega)only[sm,sl]at l2 n2 g2 q2)|simp(disch:=omega)only[↓aa,ab,simprocAttr,sa,wx hc, *])
  all_goals first|exact aA|((with_reducible show _∧_);exact⟨eZ (by simp only[wT,wG,wbh,wa5,cj.Small,hc];first|omega|(simp[*]<;>omega)),aA⟩)
theorem zfB{w:Nat}(h4:w%4=1)(h:2305843009213693952≤w/4)(hw:w<18446744073709551616):dJ w=some ⟨1,((w/4:Nat):Int)-4611686018427387904⟩:=by
 have e:((w:Int)-18446744073709551616)/4=((w/4:Nat):Int)-4611686018427387904:=by omega
 unfold dJ
 rw[wF h4,zfy (by omega),e]
theorem zfC{k:Nat}(h:2305843009213693952≤k)(h2:k<4611686018427387904):IntKind.i64.wrap (0-IntKind.i64.wrap (IntKind.u64.wrap (4611686018427387904-(k:Int))))=(k:Int)-4611686018427387904:=by
 have q0:(4611686018427387904:Int)-(k:Int)=((4611686018427387904-k:Nat):Int):=by omega
 rw[q0,v9 (by omega),wrap_i64 (n:=((4611686018427387904-k:Nat):Int)) (by omega) (by omega),wrap_i64 (by omega) (by omega)]
 omega
theorem uy(H:Heap)(an:H.lo≤H.next)(w:Nat)(hw:w<2^64):af E (aK 110) [.int .u64 w] H fun r H'=>r= .tuple #[cZ ((dJ w).getD .none),.int .i64 (if(dJ w).isSome then 0 else 3)]∧aq H H':=by
 have qA:w<18446744073709551616:=by omega
 have t1:IntKind.u64.wrap ((w:Int).tdiv 4)=((w/4:Nat):Int):=v9 (n:=w/4) (by omega)
 have t2:(w:Int).tmod 4=((w%4:Nat):Int):=rfl
 refine aV Tryz.f110 ?_
 simp only[Tryz.f110]
 repeat'(first|(apply ak<;>intro)|simp(disch:=omega)only[↓aa,ab,simprocAttr,sa,t1,t2, *])
 all_goals refine⟨?_,by exact aA⟩
 all_goals first
  |(have e:dJ w=some .none:=by unfold dJ;rw[wI (by omega),wI (by omega),wF (by omega)]
    rw[e];rfl)
  |(have e:dJ w=some ⟨1,((w/4:Nat):Int)⟩:=by
     unfold dJ;rw[wF (by omega),wrap_i64 (by omega) (by omega)];rfl
    rw[e];rfl)
  |(rw[zfB (by omega) (by omega) (by omega),zfC (by omega) (by omega)];rfl)
  |(have e:dJ w=some ⟨2,((w/4:Nat):Int)⟩:=by unfold dJ;rw[wI (by omega),wF (by omega)];rfl
    rw[e];rfl)
  |(have e:dJ w=none:=by unfold dJ;rw[wI (by omega),wI (by omega),wI (by omega)]
    rw[e];rfl)
  |trace_state
structure Mod(ex:List Nat)(H H':Heap):Prop where
 lo:H'.lo=H.lo
 ag:H.next≤H'.next
 objs:∀ x,x<H.next→x∉ex→H'.objs.get x=H.objs.get x
 grps:∀ x,x<H.next→H'.grps.get x=H.grps.get x
structure Wk where
 words:Int
 objects:Int
 fields:Int
 marked:Int
 steps:Int
def rnC(a b:Nat)(fr to:Span)(top:Int)(lv:Value)(k:Wk):List Value:=[.bool true,ptr a 0,.int .i64 fr.ae,.int .i64 fr.size,.int .i64 top,.int .i64 to.ae,.int .i64 to.size,ptr b 0,lv,.int .i64 k.words,.int .i64 k.objects,.int .i64 k.fields,.int .i64 k.marked,.int .i64 k.steps]
structure Rs where
 u:Int
 k:Wk
 ws:List Nat
structure Rc where
 p:Nat
 b:Nat
 a:Nat
 rw:Nat
 g:Nat
 fr:Span
 to:Span
 top:Int
 lv:Value
structure Rn(H:Heap)(c:Rc)(s:Rs):Prop where
 row:H.objs.get c.p=some (.row (rnC c.a c.b c.fr c.to c.top c.lv s.k) none true)
 lp:c.p<H.next
 bp:Bp H c.b c.to s.u
 ar:Ar H c.a c.rw c.g s.ws
 f0:0≤c.fr.ae
 f1:c.fr.ae≤c.top
 f2:c.top≤s.ws.length
 t1:c.to.ae+c.to.size≤s.ws.length
def Rc.ex(c:Rc):List Nat:=[c.p,c.b,c.rw]
structure Rc.Lo(c:Rc)(H:Heap):Prop where
 p:H.lo≤c.p
 b:H.lo≤c.b
 rw:H.lo≤c.rw
end Go.AM
