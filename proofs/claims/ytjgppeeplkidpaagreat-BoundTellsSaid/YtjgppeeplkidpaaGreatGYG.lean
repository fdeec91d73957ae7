/-
  Walks over letters of the functions that the law reaches; written small by a program of mine.
-/
import Derived.Test.YtjgppeeplkidpaaGreatGC17
import Derived.Test.YtjgppeeplkidpaaGreatGC8
import Derived.Test.YtjgppeeplkidpaaGreatTy
import Derived.Test.YtjgppeeplkidpaaGreatGK5
set_option linter.unusedVariables false
set_option linter.unusedSectionVars false
namespace Go.AM
attribute [local instance] fnMaps
open Go Go.Proofs
set_option maxRecDepth 100000
set_option maxHeartbeats 4000000
set_option linter.unusedSimpArgs false
set_option maxHeartbeats 1000000
def D0(ob:Option AObj)(r:Nat):Option AObj:=match ob with
 |some (.map es)=>some (.iter (some r) es.length .start)
 |some (.lQ _ c)=>some (.lO r c [] c)
 |_=>none
theorem zaM(es:List (Value×Value))(r:Nat):D0 (some (.map es)) r=some (.iter (some r) es.length .start):=wE rfl rfl
theorem zaN(H:Heap)(r:Nat):AH E H 168 (.map (some r))=D0 (H.objs.get r) r:=by
 rw[zat]
 cases h:H.objs.get r with
 |none=>simp[D0,gOf,entriesOf,h]
 |some o=>cases o<;>simp[D0,gOf,entriesOf,h]
def jx(ws:List Nat)(ks:List Int)(p:Int):Bool:=(List.range (aT ws p).fields.toNat).all fun k=>fz ks (jt ws p k false)
def keyOf:Value×Value→Int
 |(.int _ a,_)=>a
 |_=>0
theorem Ar.zaO{H:Heap}{a rw g:Nat}{ws:List Nat}(h:Ar H a rw g ws)(p k:Int)(eu:Bool):jt ws p k eu<2^64:=by
 unfold jt
 split
 ·exact h.lt _
 ·omega
theorem zaP(ws:List Nat)(p:Int):0≤(aT ws p).fields∧(aT ws p).fields≤65535:=by
 unfold aT
 split
 ·rename_i h
  have h2:=kE h
  have:=jO h2.2.2.1
  rw[h2.2.2.2.2]at this
  omega
 ·exact⟨by decide,by decide⟩
theorem zaQ(H:Heap)(aj:H.lo≤H.next){lp a rw m:Nat}{s:St}{w t f zl dT:Value}{dM ks:List Int}(hk:Lk H lp s w t f zl a rw m dT dM ks)(hl:lp<H.next)(hb:∀ x∈ks, -9223372036854775808≤x∧x≤9223372036854775807):af E (aC 200) [ptr lp 0] H fun r H'=>r= .bool (ks.all (jx s.words ks))∧aq H H':=by
 have aG:=hk.row
 have hA:=hk.ar
 have hm:=hk.map
 have sy:=hk.lm
 unfold gB at aG
 refine aQ Tryz.f200 ?_
 simp only[Tryz.f200]
 simp(disch:=omega)only[↓aa,ab,simprocAttr,sa,zaN,zaM, *]
 refine zA (fun T1 H1 eT eH=>?_)
 have sH:aq H H1:=by rw[eH];exact Aa _ _
 have n1:H1.next=H.next+1:=by rw[eH,ja]
 have i1:H1.objs.get H.next=some (.iter (some m) (fY ks).length .start):=by rw[eH,px,cB rfl];rfl
 have t13:T1.get 13=some (ptr H.next 0):=by rw[eT];simp(disch:=omega)only[↓aa,ab,simprocAttr]
 have t0:T1.get 0=some (ptr lp 0):=by rw[eT];simp(disch:=omega)only[↓aa,ab,simprocAttr]
 have zid:=sH.lo
 have m1:=sH.keeps sy hm
 clear eT eH
 refine Vi (it:= .tmp 13) (r:=H.next) (rm:=m) (es:=fY ks) kq 2 (.bool false) (fun e=> !jx s.words ks (keyOf e)) (wap kq) rfl ?_ t13 i1 m1 (by omega) ?_ ?_ ?_
 ·show(dropAll _ T1).get 13=_
  rw[Al,t13]
  kernel_rfl
 ·intro i e he
  unfold Round
  generalize D1:dropAll _ T1=T0
  have f0:T0.get 0=some (ptr lp 0):=by rw[←D1,Al,t0];kernel_rfl
  have f13:T0.get 13=some (ptr H.next 0):=by rw[←D1,Al,t13];kernel_rfl
  clear D1
  have he0:=he
  unfold fY at he
  rw[war,wa6]at he
  obtain⟨p,hp,rfl⟩:=he
  have iy:=hb p (wag hp)
  generalize AU:({objs:=(H1.setObj H.next (.iter (some m) (fY ks).length (.told i))).objs,grps:=H1.grps,next:=H1.next,lo:=H1.next}:Heap)=Hr
  have kr:Ko H Hr:=by rw[←AU];exact⟨sH.ag,fun x hx=>by show(H1.setObj H.next _).objs.get x=_;rw[iw,au (by omega)];exact sH.objs x hx,sH.grps⟩
  have nr:Hr.next=H1.next:=by rw[←AU]
  have lr:Hr.lo=H1.next:=by rw[←AU]
  have ir:Hr.objs.get H.next=some (.iter (some m) (fY ks).length (.told i)):=by rw[←AU];show(H1.setObj H.next _).objs.get H.next=_;rw[iw,cB rfl];rfl
  clear AU
  have zie:=zav ir ((kr.objs m sy).trans hm) rfl he0
  have rr:=(kr.objs lp hl).trans aG
  have mr:=(kr.objs m sy).trans hm
  have lE:=hA.same kr
  have HM:lp<Hr.next:=by omega
  have HN:m<Hr.next:=by omega
  refine MW (MX rfl ?_)
  simp(disch:=omega)only[↓aa,ab,simprocAttr,sa,zau, *]
  refine ak Hr (oN _ ah lE p iy) ?_
  intro H2 k2 l2 n2 g2 q2
  simp(disch:=omega)only[↓aa,ab,simprocAttr,sa,bK, *]
  have lF:=zaP s.words p
  have hL:jx s.words ks p=(List.range (aT s.words p).fields.toNat).all (fun k=>fz ks (jt s.words p k false)):=rfl
  generalize hnf:(aT s.words p).fields.toNat=nf at hL
  have zaR:(aT s.words p).fields=nf:=by omega
  rw[zaR]
  refine zA (fun T5 H5 eT eH=>?_)
  have k5:Ko Hr H5:=by rw[eH];exact aw
  have n5:=k5.ag
  have l5:H5.lo=Hr.lo:=by rw[eH];simp(disch:=omega)only[↓aa,ab,simprocAttr,sa, *]
  have u28:T5.get 28=some (.int .i64 nf):=by rw[eT];simp(disch:=omega)only[↓aa,ab,simprocAttr]
  have OR:T5.get 29=some (.int .i64 0):=by rw[eT];simp(disch:=omega)only[↓aa,ab,simprocAttr]
  have u0:T5.get 0=some (ptr lp 0):=by rw[eT];simp(disch:=omega)only[↓aa,ab,simprocAttr,f0]
  have u3:T5.get 3=some (.int .i64 p):=by rw[eT];simp(disch:=omega)only[↓aa,ab,simprocAttr]
  clear eT eH
  refine bt kq (fun nn T X=>∃ j:Nat,nn=nf-j∧j≤nf∧T.get 29=some (.int .i64 j)∧T.get 28=some (.int .i64 nf)∧T.get 0=some (ptr lp 0)∧T.get 3=some (.int .i64 p)∧Ko Hr X∧X.lo=Hr.lo∧∀ k:Nat,k<j→fz ks (jt s.words p k false)=true) ⟨_,0,rfl,wJ _,OR,u28,u0,u3,k5,l5,fun k hk=>absurd hk (by omega)⟩ ?_
  rintro nn T X ⟨j,rfl,hj,v29,v28,v0,v3,kX,lX,cP⟩ Qs hQ aD ai
  have nX:=kX.ag
  have rX:=(kX.objs lp HM).trans rr
  have mX:=(kX.objs m HN).trans mr
  have AX:=lE.same kX
  by_cases hlt:j<nf
  ·have fG:=lE.zaO p j false
   have nk:=fun(H0:Heap) (h0:H0.lo≤H0.next) (k:Ko Hr H0)=>ON H0 h0 ((k.objs lp HM).trans rr) rfl ((k.objs m HN).trans mr) (wq HM k.ag) (wq HN k.ag) (jt s.words p j false) fG
   cases gV:fz ks (jt s.words p j false)with
   |false=>
    have hz:jx s.words ks p=false:=by
     rw[hL,wcD]
     exact⟨j,wcc.2 hlt,by rw[gV];simp⟩
    have uj:jx s.words ks (keyOf (.int .i64 p,.bool true))=false:=hz
    repeat'(first|(apply ao<;>intro)|((with_reducible show af _ _ _ _ _);(first|refine ak X (OA _ ah (AX.same aw) p iy j) ?_|refine ak X (nk _ ah aw) ?_);intro H2 k2 l2 n2 g2 q2;try simp(disch:=omega)only[sm,sl]at l2 n2 g2 q2)|((with_reducible show Qs _ _ _ _ _);first|refine ai _ _ _ _ ?_|refine aD _ _ _ ?_)|simp(disch:=omega)only[↓aa,ab,simprocAttr,sa, *])
    all_goals try omega
   |true=>
    repeat'(first|(apply ao<;>intro)|((with_reducible show af _ _ _ _ _);(first|refine ak X (OA _ ah (AX.same aw) p iy j) ?_|refine ak X (nk _ ah aw) ?_);intro H2 k2 l2 n2 g2 q2;try simp(disch:=omega)only[sm,sl]at l2 n2 g2 q2)|((with_reducible show Qs _ _ _ _ _);refine ai _ _ _ _ ?_)|simp(disch:=omega)only[↓aa,ab,simprocAttr,sa, *])
    all_goals try omega
    refine hQ _ _ _ ?_ ⟨j+1,rfl,by omega,?_,?_,?_,?_,?_,?_,fun k hk=>?_⟩
    ·omega
    iterate 6 exact ay
    ·by_cases e:k=j
     ·rw[e];exact gV
     ·exact cP k (by omega)
  ·have hz:jx s.words ks p=true:=by
    rw[hL,waC]
    intro k hk
    exact cP k (by have:=wcc.1 hk;omega)
   have uj:jx s.words ks (keyOf (.int .i64 p,.bool true))=true:=hz
   repeat'(first|(apply ao<;>intro)|((with_reducible show Qs _ _ _ _ _);refine ai _ _ _ _ ?_)|simp(disch:=omega)only[↓aa,ab,simprocAttr,sa, *])
   all_goals try omega
 ·intro cP
  generalize D1:dropAll _ T1=T0
  have hz:ks.all (jx s.words ks)=true:=by
   rw[waC]
   intro p hp
   have:=cP (.int .i64 p,.bool true) (wbG.2 ⟨p,hp,rfl⟩)
   simpa[keyOf]using this
  have sD:aq H {objs:=H1.objs.del H.next,grps:=H1.grps,next:=H1.next,lo:=H1.lo}:=ND sH (wy _) rfl rfl rfl
  generalize ({objs:=H1.objs.del H.next,grps:=H1.grps,next:=H1.next,lo:=H1.lo}:Heap)=HD at sD
  refine MW (MX rfl ?_)
  simp(disch:=omega)only[↓aa,ab,simprocAttr,sa, *]
  exact fun h=>by cases h
 ·rintro⟨e,he,jf⟩ T' h2 zQ
  have hz:ks.all (jx s.words ks)=false:=by
   obtain⟨p,hp,rfl⟩:=wbG.1 he
   rw[wcD]
   refine⟨p,hp,?_⟩
   simpa[keyOf]using jf
  have sD:aq H {objs:=H1.objs.del H.next,grps:=H1.grps,next:=H1.next,lo:=H1.lo}:=ND sH (wy _) rfl rfl rfl
  generalize ({objs:=H1.objs.del H.next,grps:=H1.grps,next:=H1.next,lo:=H1.lo}:Heap)=HD at sD
  simp(disch:=omega)only[↓aa,ab,simprocAttr,sa, *]
def gL(s:St):List Int:=s.table.foldl AT (sw s)
def jV(s:St):Nat→Bool
 |0=>decide s.cfg.Ok
 |1=>decide ((s.words.length:Int)=s.cfg.words)
 |2=>decide (oi s)
 |3=>decide ((da s).2=0)
 |4=>(da s).1.all (jT s)
 |5=>ig s
 |6=>ni s.bj s.cfg.bj
 |7=>(gL s).all (jx s.words (gL s))
 |_=>s.bj.all (iS (gL s))
def sC(s:St)(i:Nat):Nat→Int
 |0=>0
 |n+1=>if jV s i then sC s (i+1) n else(i:Int)+1
def ef(s:St):Int:=sC s 0 9
def yC:List Value:=[aC 193,aC 194,aC 195,aC 196,aC 197,aC 198,aC 199,aC 200,aC 201]
structure sE(s:St):Prop where
 words:∀ x∈s.words,x<2^64
 bj:∀ x∈s.bj,x.word<2^64
 table:s.table.length≤100000
structure qU(H X:Heap)(lp rr:Nat):Prop where
 ko:Ko H X
 lo:X.lo=H.lo
 l1:H.next≤lp
 l2:lp<X.next
 r1:H.next≤rr
 r2:rr<X.next
 row:X.objs.get rr=some (.row yC none true)
 ne:rr≠lp
theorem qU.same{H X Y:Heap}{lp rr:Nat}(b:qU H X lp rr)(s:aq X Y):qU H Y lp rr:=
 ⟨b.ko.call s,s.lo.trans b.lo,b.l1,wq b.l2 s.ag,b.r1,wq b.r2 s.ag,s.keeps b.r2 b.row,b.ne⟩
theorem qU.ju{H X Y:Heap}{lp rr k:Nat}(b:qU H X lp rr)(s:eK k X Y)(hl:Y.lo=X.lo)(hk:H.next≤k)(hr:rr≠k):qU H Y lp rr:=by
 have h1:=b.ko;have h2:=h1.ag;have h3:=s.ag
 exact⟨⟨by omega,fun x hx=>(s.objs x (by omega) (by omega)).trans (h1.objs x hx),fun x hx=>(s.grps x (by omega)).trans (h1.grps x hx)⟩,hl.trans b.lo,b.l1,by have:=b.l2;omega,b.r1,by have:=b.r2;omega,(s.objs rr b.r2 hr).trans b.row,b.ne⟩
theorem iQ.ko{H X:Heap}{s:St}{w t f zl:Value}(h:iQ H s w t f zl)(k:Ko H X):iQ X s w t f zl:=⟨h.w.ko RW.mono k,h.t.ko bD.mono k,h.f.ko bD.mono k,h.sl.ko ux.mono k⟩
theorem Lk.same{H X:Heap}{lp a rw m:Nat}{s:St}{w t f zl dT:Value}{dM ks:List Int}(h:Lk H lp s w t f zl a rw m dT dM ks)(hl:lp<H.next)(k:aq H X):Lk X lp s w t f zl a rw m dT dM ks:=
 ⟨k.keeps hl h.row,h.ar.same k.ko,h.small.ko (fun _ _ _ _ _ h=>h) k.ko,k.keeps h.lm h.map,wq h.lm k.ag⟩
def oj(H:Heap)(lp:Nat)(s:St)(w t f zl:Value)(i:Nat)(X:Heap):Prop:=
 if i≤3 then X.objs.get lp=some (.row (gB s w t f zl (.pointer none) (.slice none 0 0) (.map none)) none true)
 else ∃a rw m dT,Lk X lp s w t f zl a rw m dT (da s).1 (if i≤5 then sw s else gL s)∧H.next≤m
theorem zaS(s:St)(hw:s.words.length≤9223372036854775807)(hr:ig s=true):∀ x∈gL s, -9223372036854775808≤x∧x≤9223372036854775807:=by
 have hs:∀ (l:List Int) (ks:List Int),(∀x∈ks, -9223372036854775808≤x∧x≤9223372036854775807)→(∀x∈l, -9223372036854775808≤x∧x≤9223372036854775807)→∀ x∈l.foldl oP ks, -9223372036854775808≤x∧x≤9223372036854775807:=by
  intro l
  induction l with
  |nil=>intro ks h _;exact h
  |cons y l ih=>
   intro ks h h2
   refine ih _ (fun x hx=>?_) fun x hx=>h2 x (wM _ hx)
   unfold oP at hx
   split at hx
   ·exact h x hx
   ·rcases waI.1 hx with hx|hx
    ·exact h x hx
    ·rw[waG]at hx;subst hx;exact h2 _ (wW ..)
 have e:gL s=(s.table.map (·.ae)).foldl oP (sw s):=by unfold gL AT;rw[List.foldl_map]
 rw[e]
 have hR:jQ s.cfg.jr s.table s.free=true:=by unfold ig at hr;rw[wA]at hr;exact hr.1
 have uy:fI s.cfg.jr none s.table=true:=by unfold jQ at hR;rw[wA]at hR;exact hR.1
 obtain⟨cn, -, -⟩:=uv uy
 refine hs _ _ (hs _ _ (fun x h=>by cases h) fun x hx=>?_) fun x hx=>?_
 ·have:=AS s x hx
  omega
 ·obtain⟨y,hy,rfl⟩:=wbG.1 hx
  have:=(cn y hy).1
  unfold bw at this
  omega
theorem zaT{α:Type}{R:Heap→List Value→α→Prop}{z:Nat}{H:Heap}{v:Value}{l:List α}(h:aZ R z H v l):l.length≤9223372036854775807:=by
 obtain⟨⟨_,_,_,⟨_,h⟩,_⟩,_⟩:=h
 exact h
theorem zaU{H X:Heap}{lp rr:Nat}{s:St}{w t f zl:Value}(aj:H.lo≤H.next)(sF:iQ H s w t f zl)(cx:sE s)(i:Nat)(hi:i<9)(hg:oj H lp s w t f zl i X)(b:qU H X lp rr)(cP:∀ k,k<i→jV s k=true):
  af E (yC.getD i .nilFunc) [ptr lp 0] X fun r X'=>r= .bool (jV s i)∧qU H X' lp rr∧(jV s i=true→oj H lp s w t f zl (i+1) X'):=by
 have hS:=sF.ko b.ko
 have hn:=b.ko.ag
 have hX:X.lo≤X.next:=by have:=b.lo;omega
 have fG:=zaT sF.w
 have lu:X.lo≤lp:=by have:=b.lo;have:=b.l1;omega
 have aS:i≤3→X.objs.get lp=some (.row (gB s w t f zl (.pointer none) (.slice none 0 0) (.map none)) none true):=fun h=>by unfold oj at hg;rw[wF h]at hg;exact hg
 have new:¬ i≤3→∃ a rw m dT,Lk X lp s w t f zl a rw m dT (da s).1 (if i≤5 then sw s else gL s)∧H.next≤m:=fun h=>by unfold oj at hg;rw[wI h]at hg;exact hg
 have cz:∀ (i:Nat) (X':Heap),aq X X'→i≠3→i≠5→oj H lp s w t f zl i X→oj H lp s w t f zl (i+1) X':=by
  intro i X' sX h3 h5 hg
  unfold oj at hg⊢
  by_cases h:i≤3
  ·rw[wF h]at hg
   rw[wF (by omega)]
   exact sX.keeps b.l2 hg
  ·rw[wI h]at hg
   rw[wI (by omega)]
   obtain⟨a,rw,m,dT,h1,h2⟩:=hg
   refine⟨a,rw,m,dT,?_,h2⟩
   have:(if i+1≤5 then sw s else gL s)=(if i≤5 then sw s else gL s):=by
    by_cases h6:i+1≤5
    ·rw[wF h6,wF (by omega)]
    ·rw[wI h6,wI (by omega)]
   rw[this]
   exact h1.same b.l2 sX
 match i,hi with
 |0,_=>
  refine(zaz X hX (aS (by omega)) b.l2).mono ?_
  rintro r X' ⟨rfl,sX⟩
  exact⟨rfl,b.same sX,fun _=>cz 0 X' sX (by omega) (by omega) hg⟩
 |1,_=>
  refine(zaA X hX (aS (by omega)) b.l2 hS).mono ?_
  rintro r X' ⟨rfl,sX⟩
  exact⟨rfl,b.same sX,fun _=>cz 1 X' sX (by omega) (by omega) hg⟩
 |2,_=>
  refine(zaB X hX (aS (by omega)) b.l2).mono ?_
  rintro r X' ⟨rfl,sX⟩
  exact⟨rfl,b.same sX,fun _=>cz 2 X' sX (by omega) (by omega) hg⟩
 |3,_=>
  have c0:s.cfg.Ok:=wap (cP 0 (by omega))
  have c1:(s.words.length:Int)=s.cfg.words:=wap (cP 1 (by omega))
  have c2:oi s:=wap (cP 2 (by omega))
  refine(zaF X hX (aS (by omega)) b.l2 lu rfl rfl hS c0 c1 cx.words c2).mono ?_
  rintro r X' ⟨rfl,sB,a,rw,m,dT,hk,h1,h2,h3⟩
  have sK:eK lp X X':=⟨sB.ag,sB.objs,sB.grps⟩
  refine⟨rfl,b.ju sK sB.lo b.l1 b.ne,fun _=>?_⟩
  unfold oj
  rw[wI (by omega)]
  exact⟨a,rw,m,dT,hk,by omega⟩
 |4,_=>
  obtain⟨a,rw,m,dT,hk,hm⟩:=new (by omega)
  refine(zaI X hX hk b.l2 fun x hx=>by have:=AS s x hx;omega).mono ?_
  rintro r X' ⟨rfl,sX⟩
  exact⟨rfl,b.same sX,fun _=>cz 4 X' sX (by omega) (by omega) hg⟩
 |5,_=>
  obtain⟨a,rw,m,dT,hk,hm⟩:=new (by omega)
  refine(zaK X hX hk b.l2 hS (by have:=b.lo;omega) cx.table).mono ?_
  rintro r X' ⟨rfl,sK,eU,yp⟩
  have HI:rr≠m:=fun e=>by have h1:=b.row;have h2:=hk.map;rw[e,h2]at h1;cases h1
  have HJ:lp≠m:=fun e=>by have h1:=hk.row;have h2:=hk.map;rw[e,h2]at h1;cases h1
  have HK:a≠m:=fun e=>by have h1:=hk.ar.box;have h2:=hk.map;rw[e,h2]at h1;cases h1
  have ne4:rw≠m:=fun e=>by have h1:=hk.ar.row;have h2:=hk.map;rw[e,h2]at h1;cases h1
  refine⟨rfl,b.ju sK eU hm HI,fun hT=>?_⟩
  unfold oj
  rw[wI (by omega)]
  refine⟨a,rw,m,dT,⟨(sK.objs lp b.l2 HJ).trans hk.row,hk.ar.ju sK HK ne4,?_,yp hT,wq hk.lm sK.ag⟩,hm⟩
  obtain⟨⟨jS,sc,rfl,hc,hl⟩,hr⟩:=hk.small
  refine⟨⟨jS,sc,rfl,hc,fun i x hx=>?_⟩,fun a' n c e=>?_⟩
  ·obtain⟨r,o,cells,g,t',part,h1,h2,h3,h4,h5⟩:=hl i x hx
   have:r≠m:=fun e=>by have h2:=hk.map;rw[e,h2]at h3;cases h3
   exact⟨r,o,cells,g,t',part,h1,wq h2 sK.ag,(sK.objs r h2 this).trans h3,h4,h5⟩
  ·rcases hr a' n c e with h|⟨r,cells,g,t',h1,h2,h3⟩
   ·exact .inl h
   ·have:r≠m:=fun e=>by have h2:=hk.map;rw[e,h2]at h3;cases h3
    exact .inr ⟨r,cells,g,t',h1,wq h2 sK.ag,(sK.objs r h2 this).trans h3⟩
 |6,_=>
  obtain⟨a,rw,m,dT,hk,hm⟩:=new (by omega)
  refine(zaC X hX hk.row b.l2 hS cx.bj).mono ?_
  rintro r X' ⟨rfl,sX⟩
  exact⟨rfl,b.same sX,fun _=>cz 6 X' sX (by omega) (by omega) hg⟩
 |7,_=>
  obtain⟨a,rw,m,dT,hk,hm⟩:=new (by omega)
  have hk:Lk X lp s w t f zl a rw m dT (da s).1 (gL s):=hk
  refine(zaQ X hX hk b.l2 (zaS s fG (cP 5 (by omega)))).mono ?_
  rintro r X' ⟨rfl,sX⟩
  exact⟨rfl,b.same sX,fun _=>cz 7 X' sX (by omega) (by omega) hg⟩
 |8,_=>
  obtain⟨a,rw,m,dT,hk,hm⟩:=new (by omega)
  have hk:Lk X lp s w t f zl a rw m dT (da s).1 (gL s):=hk
  refine(zaJ X hX hk b.l2 hS cx.bj).mono ?_
  rintro r X' ⟨rfl,sX⟩
  exact⟨rfl,b.same sX,fun _=>cz 8 X' sX (by omega) (by omega) hg⟩
def df(s:St)(w t f zl:Value):Value:= .agg #[.int .i64 s.cfg.mh,.int .i64 s.cfg.mj,.int .i64 s.cfg.bj,.int .i64 s.cfg.fL,.bool s.second,w,.int .i64 s.top,t,f,zl]
theorem zaV(f:Fn)(a b:Array Value):isCell (.func f a b)=true:=wE rfl rfl
theorem zaW(f:Fn)(a b:Array Value):cj (.func f a b)=[.func f a b]:=wE rfl rfl
theorem zaX(H:Heap)(aj:H.lo≤H.next):af E (aC 141) [] H fun r H'=>r= .slice (some ⟨H.next,0,none⟩) 9 9∧H'=H.newRow yC:=by
 refine aQ Tryz.f141 ?_
 simp only[Tryz.f141]
 simp(disch:=omega)only[↓aa,ab,simprocAttr,sa,cC,iN,eF,wL,wat,wY,waA,waV,waZ,zaW,zaV, *]
 rfl
theorem OX(s:St){i:Nat}(hi:i<9)(h:∀ k,k<i→jV s k=true)(hb:jV s i=false):ef s=(i:Int)+1:=by
 have key:∀ n k,k+n=9→k≤i→sC s k n=(i:Int)+1:=by
  intro n
  induction n with
  |zero=>intro k h1 h2;omega
  |succ n ih=>
   intro k h1 h2
   by_cases e:k=i
   ·subst e;unfold sC;rw[hb];rfl
   ·unfold sC;rw[wF (h k (by omega))];exact ih (k+1) (by omega) (by omega)
 exact key 9 0 rfl (wJ _)
theorem OY(s:St)(h:∀ k,k<9→jV s k=true):ef s=0:=by
 have key:∀ n k,k+n=9→sC s k n=0:=by
  intro n
  induction n with
  |zero=>intro k _;rfl
  |succ n ih=>intro k h1;unfold sC;rw[wF (h k (by omega))];exact ih (k+1) (by omega)
 exact key 9 0 rfl
theorem zaY{i:Nat}(h:i<9):yC[i]? =some (yC.getD i .nilFunc):=by
 rw[wav,wj (show i<yC.length from h)];rfl
theorem zaZ(H:Heap)(aj:H.lo≤H.next){s:St}{w t f zl:Value}(hS:iQ H s w t f zl)(cx:sE s):af E (aC 102) [df s w t f zl] H fun r H'=>∃ lp,r= .tuple #[ptr lp 0,.int .i64 (ef s)]∧H.next≤lp∧lp<H'.next∧aq H H'∧(ef s=0→∃ a rw m dT,Lk H' lp s w t f zl a rw m dT (da s).1 (gL s)):=by
 have sF:=hS
 obtain⟨⟨wa,wc,rfl,_⟩,_⟩:=hS.w
 obtain⟨⟨ta,tc,rfl,_⟩,_⟩:=hS.t
 obtain⟨⟨fa,fc,rfl,_⟩,_⟩:=hS.f
 obtain⟨⟨jS,sc,rfl,_⟩,_⟩:=hS.sl
 refine aQ Tryz.f102 ?_
 simp only[Tryz.f102]
 simp only[df]
 simp(disch:=omega)only[↓aa,ab,simprocAttr,sa, *]
 refine(zaX _ ah).mono ?_
 rintro v H2 ⟨rfl,rfl⟩
 simp(disch:=omega)only[↓aa,ab,simprocAttr,sa, *]
 refine zA (fun T1 H1 eT eH=>?_)
 have b1:qU H H1 (H.next+1) (H.next+1+1):=by
  refine⟨by rw[eH];exact aw,by rw[eH];simp(disch:=omega)only[aA,aM,aB,aJ,aH,aI,aN,aO,aR,aP,aL,aE,aK,au,sl],by omega,by rw[eH];simp(disch:=omega)only[aA,aM,aB,aJ,aH,aI,aN,aO,aR,aP,aL,aE,aK,au,sl];omega,by omega,by rw[eH];simp(disch:=omega)only[aA,aM,aB,aJ,aH,aI,aN,aO,aR,aP,aL,aE,aK,au,sl];omega,by rw[eH];simp(disch:=omega)only[aA,aM,aB,aJ,aH,aI,aN,aO,aR,aP,aL,aE,aK,au,sl],by omega⟩
 have g1:oj H (H.next+1) s (.slice wa s.words.length wc) (.slice ta s.table.length tc) (.slice fa s.free.length fc) (.slice jS s.bj.length sc) 0 H1:=by
  unfold oj
  rw[wF (by omega),eH]
  simp(disch:=omega)only[aA,aM,aB,aJ,aH,aI,aN,aO,aR,aP,aL,aE,aK,au,sl,gB]
 have t10:T1.get 10=some (.slice (some ⟨H.next+1+1,0,none⟩) 9 9):=by rw[eT];simp(disch:=omega)only[↓aa,ab,simprocAttr]
 have t11:T1.get 11=some (.int .i64 9):=by rw[eT];simp(disch:=omega)only[↓aa,ab,simprocAttr];try rfl
 have t12:T1.get 12=some (.int .i64 0):=by rw[eT];simp(disch:=omega)only[↓aa,ab,simprocAttr]
 have t4:T1.get 4=some (ptr (H.next+1) 0):=by rw[eT];simp(disch:=omega)only[↓aa,ab,simprocAttr]
 clear eT eH
 refine bt kq (fun nn T X=>∃ i:Nat,nn=9-i∧i≤9∧T.get 12=some (.int .i64 i)∧T.get 10=some (.slice (some ⟨H.next+1+1,0,none⟩) 9 9)∧T.get 11=some (.int .i64 9)∧T.get 4=some (ptr (H.next+1) 0)∧qU H X (H.next+1) (H.next+1+1)∧
  oj H (H.next+1) s (.slice wa s.words.length wc) (.slice ta s.table.length tc) (.slice fa s.free.length fc) (.slice jS s.bj.length sc) i X∧∀ k,k<i→jV s k=true) ⟨_,0,rfl,wJ _,t12,t10,t11,t4,b1,g1,fun k h=>absurd h (by omega)⟩ ?_
 rintro nn T X ⟨i,rfl,hi,u12,OZ,u11,u4,bX,gX,cP⟩ Qs hQ aD ai
 have rX:=bX.row
 have lX:=bX.lo
 have lrX:=bX.r2
 by_cases hlt:i<9
 ·have a1:at? (i:Int) 9=some i:=bI hlt
  have hk:=zaY hlt
  repeat'(first|(apply ao<;>intro)|((with_reducible show Qs _ _ _ _ _);refine ai _ _ _ _ ?_)|simp(disch:=omega)only[↓aa,ab,simprocAttr,sa, *])
  all_goals try omega
  refine(zaU aj sF cx i hlt gX bX cP).mono ?_
  rintro r X2 ⟨rfl,bY,gY⟩
  have lY:=bY.lo
  cases hb:jV s i with
  |true=>
   simp(disch:=omega)only[↓aa,ab,simprocAttr,sa, *]
   refine hQ _ _ _ ?_ ⟨i+1,rfl,by omega,?_,?_,?_,?_,bY,gY hb,fun k hk=>?_⟩
   ·omega
   iterate 4 exact ay
   ·by_cases e:k=i
    ·rw[e];exact hb
    ·exact cP k (by omega)
  |false=>
   have hc:=OX s hlt cP hb
   repeat'(first|((with_reducible show Qs _ _ _ _ _);refine aD _ _ _ ?_)|simp(disch:=omega)only[↓aa,ab,simprocAttr,sa, *])
   exact⟨H.next+1,rfl,by omega,bY.l2,Ko.same bY.ko lY,fun h=>by omega⟩
 ·have e9:i=9:=by omega
  subst e9
  have hc:=OY s cP
  repeat'(first|((with_reducible show Qs _ _ _ _ _);refine ai _ _ _ _ ?_)|simp(disch:=omega)only[↓aa,ab,simprocAttr,sa, *])
  all_goals try omega
  refine⟨H.next+1,rfl,by omega,bX.l2,Ko.same bX.ko lX,fun _=>?_⟩
  unfold oj at gX
  rw[wI (by omega)]at gX
  obtain⟨a,rw,m,dT,hk,_⟩:=gX
  exact⟨a,rw,m,dT,hk⟩
set_option linter.defProp false
structure Mod(ex:List Nat)(H H':Heap):Prop where
 lo:H'.lo=H.lo
 ag:H.next≤H'.next
 objs:∀ x,x<H.next→x∉ex→H'.objs.get x=H.objs.get x
 grps:∀ x,x<H.next→H'.grps.get x=H.grps.get x
structure Wk where
 words:Int
 objects:Int
 fields:Int
 marked:Int
 steps:Int
def rnC(a b:Nat)(fr to:Span)(top:Int)(lv:Value)(k:Wk):List Value:=[.bool true,ptr a 0,.int .i64 fr.ae,.int .i64 fr.size,.int .i64 top,.int .i64 to.ae,.int .i64 to.size,ptr b 0,lv,.int .i64 k.words,.int .i64 k.objects,.int .i64 k.fields,.int .i64 k.marked,.int .i64 k.steps]
structure Rs where
 u:Int
 k:Wk
 ws:List Nat
structure Rc where
 p:Nat
 b:Nat
 a:Nat
 rw:Nat
 g:Nat
 fr:Span
 to:Span
 top:Int
 lv:Value
structure Rn(H:Heap)(c:Rc)(s:Rs):Prop where
 row:H.objs.get c.p=some (.row (rnC c.a c.b c.fr c.to c.top c.lv s.k) none true)
 lp:c.p<H.next
 bp:Bp H c.b c.to s.u
 ar:Ar H c.a c.rw c.g s.ws
 f0:0≤c.fr.ae
 f1:c.fr.ae≤c.top
 f2:c.top≤s.ws.length
 t1:c.to.ae+c.to.size≤s.ws.length
def Rc.ex(c:Rc):List Nat:=[c.p,c.b,c.rw]
structure Rc.Lo(c:Rc)(H:Heap):Prop where
 p:H.lo≤c.p
 b:H.lo≤c.b
 rw:H.lo≤c.rw
theorem zcK{h:Hd}(h1:0≤h.kind∧h.kind≤31∧0≤h.fields∧h.fields≤4096∧0≤h.bO∧h.bO≤4096∧0≤h.fq∧h.fq≤1048576):gy h=true:=by
 refine waC.2 fun j hj=>?_
 have hj:j<5:=by simpa using hj
 have hm:0≤ik h∧ik h≤1:=by unfold ik;split<;>omega
 have key:∀ j,0≤du h j∧du h j≤jZ j→fZ h j=true:=fun j hh=>by
  unfold fZ
  rw[wx (by omega),wx (by omega)]
  rfl
 match j,hj with
 |0,_=>exact key 0 hm
 |1,_=>exact key 1 ⟨h1.1,h1.2.1⟩
 |2,_=>exact key 2 ⟨h1.2.2.1,h1.2.2.2.1⟩
 |3,_=>exact key 3 ⟨h1.2.2.2.2.1,h1.2.2.2.2.2.1⟩
 |4,_=>exact key 4 h1.2.2.2.2.2.2
theorem Qt{h:Hd}(hk:gy h=true):(wH h 5:Int)=3+ik h*4+h.kind*8+h.fields*256+h.bO*16777216+h.fq*1099511627776:=by
 have h1:=jO hk
 have hm:0≤ik h∧ik h≤1:=by unfold ik;split<;>omega
 show((3+(ik h).toNat*2^2+h.kind.toNat*2^3+h.fields.toNat*2^8+h.bO.toNat*2^24+h.fq.toNat*2^40:Nat):Int)=_
 omega
theorem zcL{h:Hd}(hk:gy h=true):eS (wH h 5)=h:=by
 have h1:=jO hk
 have hv:=Qt hk
 have hm:ik h=if h.mark then 1 else 0:=rfl
 generalize wH h 5=w at hv
 have e1:((cq w 3 5:Nat):Int)=h.kind:=by unfold cq;rw[hm]at hv;split at hv<;>omega
 have e2:((cq w 8 16:Nat):Int)=h.fields:=by unfold cq;rw[hm]at hv;split at hv<;>omega
 have e3:((cq w 24 16:Nat):Int)=h.bO:=by unfold cq;rw[hm]at hv;split at hv<;>omega
 have e4:((cq w 40 24:Nat):Int)=h.fq:=by unfold cq;rw[hm]at hv;split at hv<;>omega
 have e5:decide (((cq w 2 1:Nat):Int)=1)=h.mark:=by
  unfold cq
  rw[hm]at hv
  cases hb:h.mark with
  |true=>rw[hb,wF rfl]at hv;exact wz (by omega)
  |false=>rw[hb,wI (by simp)]at hv;exact wx (by omega)
 unfold eS
 rw[e1,e2,e3,e4,e5]
theorem zio{h:Hd}(hk:gy h=true):js (wH h 5)=true:=by
 unfold js
 rw[zcL hk,wF hk]
 exact wz rfl
theorem zcM{h:Hd}(hk:gy h=true):cu h=1+h.fields+h.bO:=by rw[cu,wF hk]
theorem ziq{ws:List Nat}{i j:Int}{w:Nat}(hi:0≤i)(hj:0≤j)(hl:j<ws.length):cY (ws.set j.toNat w) i=if i=j then w else cY ws i:=by
 unfold cY
 by_cases e:i=j
 ·subst e
  rw[wF rfl,wav,List.getElem?_set_self (by omega)]
  rfl
 ·rw[wI e,wav,List.getElem?_set_ne (by omega),←wav]
structure Obj(ws:List Nat)(p:Int)(h:Hd)(fw rw:Nat→Nat):Prop where
 p0:0≤p
 fits:p+cu h≤ws.length
 ok:gy h=true
 hd:cY ws p=wH h 5
 fl:∀ k:Nat,(k:Int)<h.fields→cY ws (p+1+k)=fw k
 rl:∀ k:Nat,(k:Int)<h.bO→cY ws (p+1+h.fields+k)=rw k
section
variable{ws:List Nat}{p:Int}{h:Hd}{fw rw:Nat→Nat}
end
theorem zgK(h:Hd):gy h=decide (0≤h.kind∧h.kind≤31∧0≤h.fields∧h.fields≤4096∧0≤h.bO∧h.bO≤4096∧0≤h.fq∧h.fq≤1048576):=by
 by_cases hc:0≤h.kind∧h.kind≤31∧0≤h.fields∧h.fields≤4096∧0≤h.bO∧h.bO≤4096∧0≤h.fq∧h.fq≤1048576
 ·rw[wz hc,zcK hc]
 ·rw[wx hc]
  cases hk:gy h with
  |false=>rfl
  |true=>exact absurd (jO hk) hc
theorem zgL{w:Nat}(hw:w<2^64):js w=(decide (w%4=3)&&gy (eS w)):=by
 unfold js
 cases hk:gy (eS w)with
 |false=>simp
 |true=>
  have hv:=Qt hk
  have hm:ik (eS w)=((cq w 2 1:Nat):Int):=by
   unfold ik eS
   simp only[wT]
   have:=qZ w 2 1
   split<;>omega
  rw[hm]at hv
  have e:(wH (eS w) 5:Int)=3+((cq w 2 1:Nat):Int)*4+((cq w 3 5:Nat):Int)*8+((cq w 8 16:Nat):Int)*256+((cq w 24 16:Nat):Int)*16777216+((cq w 40 24:Nat):Int)*1099511627776:=hv
  unfold cq at e
  simp only[wah,wcm]
  by_cases h3:w%4=3
  ·rw[wz h3,wz (by omega)]
  ·rw[wx h3,wx (by omega)]
theorem Jh(H:Heap)(aj:H.lo≤H.next)(h:Hd):af E (aC 128) [bK h] H fun r H'=>r= .bool (gy h)∧aq H H':=by
 rw[zgK]
 refine aQ Tryz.f128 ?_
 simp only[Tryz.f128]
 simp only[bK]
 repeat'(first|(apply ao<;>intro)|apply bQ|simp(disch:=omega)only[↓aa,ab,simprocAttr,sa, *])
 all_goals first|exact aF|((with_reducible show _∧_);exact⟨fe (by simp only[wT,wG,wbh,wa5,];first|omega|(simp[*]<;>omega)),aF⟩)
theorem rp(H:Heap)(aj:H.lo≤H.next)(h:Hd):af E (aC 90) [bK h] H fun r H'=>r= .int .i64 (cu h)∧aq H H':=by
 refine aQ Tryz.f90 ?_
 simp only[Tryz.f90]
 simp only[bK]
 cases hk:gy h with
 |true=>
  have:=jO hk
  have hz:=zcM hk
  repeat'(first|((with_reducible show af _ _ _ _ _);refine ak H (Jh _ ah h) ?_;intro H2 k2 l2 n2 g2 q2;try simp(disch:=omega)only[sm,sl]at l2 n2 g2 q2)|simp(disch:=omega)only[↓aa,ab,simprocAttr,sa, *])
  all_goals exact xW
 |false=>
  have hz:cu h=0:=by rw[cu,hk];rfl
  repeat'(first|((with_reducible show af _ _ _ _ _);refine ak H (Jh _ ah h) ?_;intro H2 k2 l2 n2 g2 q2;try simp(disch:=omega)only[sm,sl]at l2 n2 g2 q2)|simp(disch:=omega)only[↓aa,ab,simprocAttr,sa, *])
  all_goals exact xW
theorem Ji(H:Heap)(aj:H.lo≤H.next)(w:Nat)(hw:w<2^64):af E (aC 109) [.int .u64 w] H fun r H'=>r= .tuple #[bK (if js w then eS w else gJ),.int .i64 (if js w then 0 else 3)]∧aq H H':=by
 have qy:w<18446744073709551616:=by omega
 have t0:(w:Int).tmod 4=((w%4:Nat):Int):=rfl
 have d1:IntKind.u64.wrap ((w:Int).tdiv 4)=((w/4:Nat):Int):=xp (n:=w/4) (by omega)
 have d2:(((w/4:Nat):Int)).tmod 2=((cq w 2 1:Nat):Int):=rfl
 have d3:IntKind.u64.wrap ((w:Int).tdiv 8)=((w/8:Nat):Int):=xp (n:=w/8) (by omega)
 have d4:(((w/8:Nat):Int)).tmod 32=((cq w 3 5:Nat):Int):=rfl
 have d5:IntKind.u64.wrap ((w:Int).tdiv 256)=((w/256:Nat):Int):=xp (n:=w/256) (by omega)
 have d6:(((w/256:Nat):Int)).tmod 65536=((cq w 8 16:Nat):Int):=rfl
 have d7:IntKind.u64.wrap ((w:Int).tdiv 16777216)=((w/16777216:Nat):Int):=xp (n:=w/16777216) (by omega)
 have d8:(((w/16777216:Nat):Int)).tmod 65536=((cq w 24 16:Nat):Int):=rfl
 have d9:IntKind.u64.wrap ((w:Int).tdiv 1099511627776)=((cq w 40 24:Nat):Int):=by
  have e:cq w 40 24=w/1099511627776:=by unfold cq;omega
  rw[e]
  exact xp (n:=w/1099511627776) (by omega)
 have b1:=qZ w 3 5
 have b2:=qZ w 8 16
 have b3:=qZ w 24 16
 have b4:=qZ w 40 24
 have he:=zgL hw
 have hd:bK (eS w)= .agg #[.int .i64 ((cq w 3 5:Nat):Int),.int .i64 ((cq w 8 16:Nat):Int),.int .i64 ((cq w 24 16:Nat):Int),.bool (decide (((cq w 2 1:Nat):Int)=1)),.int .i64 ((cq w 40 24:Nat):Int)]:=rfl
 have hq:=fun X hX=>Jh X hX (eS w)
 rw[hd]at hq
 refine aQ Tryz.f109 ?_
 simp only[Tryz.f109]
 generalize cq w 3 5=g1 at*
 generalize cq w 8 16=g2 at*
 generalize cq w 24 16=g3 at*
 generalize cq w 40 24=g4 at*
 generalize cq w 2 1=g5 at*
 by_cases h3:w%4=3
 ·rw[wz h3,wa9]at he
  cases hk:gy (eS w)with
  |true=>
   rw[hk]at he hq
   rw[he,wF rfl,wF rfl,hd]
   have vn:((w%4:Nat):Int)=3:=by omega
   clear he hd hk
   repeat'(first|((with_reducible show af _ _ _ _ _);refine ak H (hq _ ah) ?_;intro H2 k2 l2 n2 g2 q2;try simp(disch:=omega)only[sm,sl]at l2 n2 g2 q2)|simp(disch:=omega)only[↓aa,ab,simprocAttr,sa,t0,d1,d2,d3,d4,d5,d6,d7,d8,d9,vn, *])
   all_goals exact xW
  |false=>
   rw[hk]at he hq
   rw[he,wI (by simp),wI (by simp)]
   have vn:((w%4:Nat):Int)=3:=by omega
   clear he hd hk
   repeat'(first|((with_reducible show af _ _ _ _ _);refine ak H (hq _ ah) ?_;intro H2 k2 l2 n2 g2 q2;try simp(disch:=omega)only[sm,sl]at l2 n2 g2 q2)|simp(disch:=omega)only[↓aa,ab,simprocAttr,sa,t0,d1,d2,d3,d4,d5,d6,d7,d8,d9,vn, *])
   all_goals(first|(with_reducible exact aF)|((with_reducible show _∧_);exact⟨by first|rfl|(simp[gJ,bK, *]<;>omega),aF⟩))
 ·rw[wx h3,wbj]at he
  rw[he,wI (by simp),wI (by simp)]
  clear he hd
  repeat'(first|(apply ao<;>intro)|simp(disch:=omega)only[↓aa,ab,simprocAttr,sa,t0,d1,d2,d3,d4,d5,d6,d7,d8,d9, *])
  all_goals try omega
  all_goals(first|(with_reducible exact aF)|((with_reducible show _∧_);exact⟨by first|rfl|(simp[gJ,bK, *]<;>omega),aF⟩))
theorem yT{l:List Value}{o i:Nat}{x:Value}(h:cut l (o+i*1) 1=some [x]):l[o+i]? =some x:=by
 rw[dB,waY]at h
 split at h
 ·rename_i hl
  have e:=congrArg (fun t:List Value=>t[0]?) (waH h)
  simp only[wab,wae,wF (show 0<1 by omega),waX,wQ]at e
  exact e
 ·cases h
theorem rn(H:Heap)(aj:H.lo≤H.next)(v:Value)(ws:List Nat)(hv:aZ RW 1 H v ws)(hu:∀ w∈ws,w<2^64)(i:Int)(hi: -9223372036854775808≤i∧i≤9223372036854775807)(hl:ws.length≤100000):af E (aC 70) [v,.int .i64 i] H fun r H'=>r= .tuple #[bK (aT ws i),.int .i64 (cF ws i)]∧aq H H':=by
 obtain⟨⟨a,ca,rfl,⟨_,jP⟩,bJ⟩, -⟩:=hv
 refine aQ Tryz.f70 ?_
 simp only[Tryz.f70]
 by_cases hp:0≤i∧i<ws.length
 ·have hP:lD ws.length i=0:=wF hp
  obtain⟨r,o,cells,gg,tt,part,rfl,hr,aG,a8,rfl⟩:=bJ i.toNat ws[i.toNat] (wj (by omega))
  have hw:=hu ws[i.toNat] (wam (by omega))
  have vt:cY ws i=ws[i.toNat]:=by unfold cY;rw[wav,wj (by omega)];rfl
  rw[←vt]at hw a8
  have hg:=yT a8
  clear a8 vt
  cases hH:js (cY ws i)with
  |true=>
   have hz:=yy (h:=eS (cY ws i))
   by_cases hs:ws.length-i<cu (eS (cY ws i))
   ·have he:cF ws i=2:=by rw[cF,wF hP,hH,wF rfl,wF hs]
    have ha:aT ws i=gJ:=by rw[aT,wI (by omega)]
    repeat'(first|(apply ao<;>intro)|apply bQ|((with_reducible show af _ _ _ _ _);(first|refine ak H (Ji _ ah _ hw) ?_|refine ak H (rp _ ah (eS (cY ws i))) ?_);intro H2 k2 l2 n2 g2 q2;try simp(disch:=omega)only[sm,sl]at l2 n2 g2 q2)|simp(disch:=omega)only[↓aa,ab,simprocAttr,sa,bK,wV, *])
    all_goals try omega
    all_goals(first|(with_reducible exact aF)|((with_reducible show _∧_);exact⟨by first|rfl|(simp[gJ,bK, *]<;>omega),aF⟩))
   ·have he:cF ws i=0:=by rw[cF,wF hP,hH,wF rfl,wI hs]
    have ha:aT ws i=eS (cY ws i):=by rw[aT,wF he]
    repeat'(first|(apply ao<;>intro)|apply bQ|((with_reducible show af _ _ _ _ _);(first|refine ak H (Ji _ ah _ hw) ?_|refine ak H (rp _ ah (eS (cY ws i))) ?_);intro H2 k2 l2 n2 g2 q2;try simp(disch:=omega)only[sm,sl]at l2 n2 g2 q2)|simp(disch:=omega)only[↓aa,ab,simprocAttr,sa,bK,wV, *])
    all_goals try omega
    all_goals(first|(with_reducible exact aF)|((with_reducible show _∧_);exact⟨by first|rfl|(simp[gJ,bK, *]<;>omega),aF⟩))
  |false=>
   have he:cF ws i=3:=by rw[cF,wF hP,hH,wI (by simp)]
   have ha:aT ws i=gJ:=by rw[aT,wI (by omega)]
   repeat'(first|(apply ao<;>intro)|apply bQ|((with_reducible show af _ _ _ _ _);refine ak H (Ji _ ah _ hw) ?_;intro H2 k2 l2 n2 g2 q2;try simp(disch:=omega)only[sm,sl]at l2 n2 g2 q2)|simp(disch:=omega)only[↓aa,ab,simprocAttr,sa,bK,wV, *])
   all_goals try omega
   all_goals(first|(with_reducible exact aF)|((with_reducible show _∧_);exact⟨by first|rfl|(simp[gJ,bK, *]<;>omega),aF⟩))
 ·have hP:lD ws.length i=2:=wI hp
  have he:cF ws i=2:=by rw[cF,wI (by omega)]
  have ha:aT ws i=gJ:=by rw[aT,wI (by omega)]
  repeat'(first|(apply ao<;>intro)|apply bQ|simp(disch:=omega)only[↓aa,ab,simprocAttr,sa,bK, *])
  all_goals try omega
  all_goals(first|(with_reducible exact aF)|((with_reducible show _∧_);exact⟨by first|rfl|(simp[gJ,bK, *]<;>omega),aF⟩))
theorem zgH(H:Heap)(aj:H.lo≤H.next)(v:Value)(l:List Int)(hv:aZ (dd .i64) 1 H v l)(x:Int):af E (aC 132) [v,.int .i64 x] H fun r H'=>r= .bool (decide (x∈l))∧aq H H':=by
 obtain⟨⟨a,ca,rfl,⟨_,jP⟩,bJ⟩, -⟩:=hv
 refine aQ Tryz.f132 ?_
 simp only[Tryz.f132]
 simp(disch:=omega)only[↓aa,ab,simprocAttr,sa, *]
 refine bC H [0,1,5] (fun T1 H1 u1 k1 n1 l1 g1=>?_) aw
 try simp(disch:=omega)only[sm,sl]at n1 l1 g1
 simp only[sq,simprocAttr]at u1
 refine bt kq (fun nn T X=>∃ i:Nat,nn=l.length-i∧(T.get 5=some (.int .i64 i))∧(T.get 0=T1.get 0∧T.get 1=T1.get 1)∧Ko H1 X∧X.lo=H1.lo∧(i≤l.length∧decide (x∈l)=decide (x∈l.drop i))) ?_ ?_
 ·refine⟨_,0,rfl,?_,?_,Ko.refl _,rfl,⟨wJ _,rfl⟩⟩<;>exact ay
 rintro nn fk X1 ⟨i,rfl,m1,w1,bu,iz,⟨hi,hE⟩⟩ Qs hQ aD ai
 have cw:=k1.trans bu;have fp:=bu.ag;have fX:=bu.objs
 by_cases hlt:i<l.length
 ·obtain⟨r,o,cells,gg,tt,part,rfl,hr,aG,a8,rfl⟩:=bJ i l[i] (by simp)
  have a1:=bI hlt
  have e1:=cw.objs r hr
  have hg:=yT a8
  clear a8
  rw[wX hlt]at hE
  generalize l[i]=y at hE hg
  by_cases hy:y=x
  ·have hT:decide (x∈l)=true:=by rw[hE];exact wz (by rw[hy];exact wW ..)
   clear hE
   repeat'(first|(apply ao<;>intro)|((with_reducible show Qs _ _ _ _ _);first|refine ai _ _ _ _ ?_|refine aD _ _ _ ?_)|simp(disch:=omega)only[↓aa,ab,simprocAttr,sa, *])
   all_goals exact cf
  ·have hN:decide (x∈l)=decide (x∈l.drop (i+1)):=by
    rw[hE]
    congr 1
    rw[wad]
    exact propext ⟨fun h=>h.resolve_left fun e=>hy e.symm,.inr⟩
   clear hE
   repeat'(first|(apply ao<;>intro)|((with_reducible show Qs _ _ _ _ _);refine ai _ _ _ _ ?_)|simp(disch:=omega)only[↓aa,ab,simprocAttr,sa, *])
   all_goals first|(refine hQ _ _ _ ?_ ⟨i+1,rfl,?_,?_,?_,?_,⟨by omega,hN⟩⟩<;>exact ay)|omega
 ·have hF:decide (x∈l)=false:=by rw[hE,waO (by omega)];rfl
  clear hE
  repeat'(first|(apply ao<;>intro)|((with_reducible show Qs _ _ _ _ _);refine ai _ _ _ _ ?_)|simp(disch:=omega)only[↓aa,ab,simprocAttr,sa, *])
  all_goals exact cf
theorem QR(H:Heap)(aj:H.lo≤H.next)(v:Value)(l:List Span)(hv:aZ bD 2 H v l)(x:Int):af E (aC 235) [v,.int .i64 x] H fun r H'=>r= .bool (mC l x)∧aq H H':=by
 obtain⟨⟨a,ca,rfl,⟨_,jP⟩,bJ⟩, -⟩:=hv
 refine aQ Tryz.f235 ?_
 simp only[Tryz.f235]
 simp(disch:=omega)only[↓aa,ab,simprocAttr,sa, *]
 refine bC H [0,1,5] (fun T1 H1 u1 k1 n1 l1 g1=>?_) aw
 try simp(disch:=omega)only[sm,sl]at n1 l1 g1
 simp only[sq,simprocAttr]at u1
 refine bt kq (fun nn T X=>∃ i:Nat,nn=l.length-i∧(T.get 5=some (.int .i64 i))∧(T.get 0=T1.get 0∧T.get 1=T1.get 1)∧Ko H1 X∧X.lo=H1.lo∧(i≤l.length∧mC l x=mC (l.drop i) x)) ?_ ?_
 ·refine⟨_,0,rfl,?_,?_,Ko.refl _,rfl,⟨wJ _,rfl⟩⟩<;>exact ay
 rintro nn fk X1 ⟨i,rfl,m1,w1,bu,iz,⟨hi,hE⟩⟩ Qs hQ aD ai
 have cw:=k1.trans bu;have fp:=bu.ag;have fX:=bu.objs
 by_cases hlt:i<l.length
 ·obtain⟨r,o,cells,gg,tt,part,rfl,hr,aG,a8,rfl⟩:=bJ i l[i] (by simp)
  have a1:=bI hlt
  have e1:=cw.objs r hr
  have bz:mC l x=(hasB l[i] x||mC (l.drop (i+1)) x):=by rw[hE,wX hlt];rfl
  clear hE
  generalize l[i]=y at bz a8
  unfold hasB at bz
  cases hd:decide (bw y∧y.ae≤x∧x≤y.ae+y.size-1)with
  |true=>
   rw[hd,Bool.true_or]at bz
   repeat'(first|(apply ao<;>intro)|((with_reducible show af _ _ _ _ _);refine ak H1 (rh _ ah y x) ?_;intro H2 k2 l2 n2 g2 q2;try simp(disch:=omega)only[sm,sl]at l2 n2 g2 q2)|((with_reducible show Qs _ _ _ _ _);first|refine ai _ _ _ _ ?_|refine aD _ _ _ ?_)|simp(disch:=omega)only[↓aa,ab,simprocAttr,sa,bn, *])
   all_goals exact cf
  |false=>
   rw[hd,wct]at bz
   repeat'(first|(apply ao<;>intro)|((with_reducible show af _ _ _ _ _);refine ak H1 (rh _ ah y x) ?_;intro H2 k2 l2 n2 g2 q2;try simp(disch:=omega)only[sm,sl]at l2 n2 g2 q2)|((with_reducible show Qs _ _ _ _ _);refine ai _ _ _ _ ?_)|simp(disch:=omega)only[↓aa,ab,simprocAttr,sa,bn, *])
   all_goals first|(refine hQ _ _ _ ?_ ⟨i+1,rfl,?_,?_,?_,?_,⟨by omega,bz⟩⟩<;>exact ay)|omega
 ·have hF:mC l x=false:=by rw[hE,waO (by omega)];rfl
  clear hE
  repeat'(first|(apply ao<;>intro)|((with_reducible show Qs _ _ _ _ _);refine ai _ _ _ _ ?_)|simp(disch:=omega)only[↓aa,ab,simprocAttr,sa, *])
  all_goals exact cf
theorem zgM(H:Heap)(aj:H.lo≤H.next)(v w:Value)(l m:List Span)(hv:aZ bD 2 H v l)(hw:aZ bD 2 H w m):af E (aC 44) [v,w] H fun r H'=>r= .bool (decide (l=m))∧aq H H':=by
 obtain⟨⟨a,ca,rfl,⟨_,jP⟩,bJ⟩, -⟩:=hv
 obtain⟨⟨b,cb,rfl,⟨_,so⟩,HB⟩, -⟩:=hw
 refine aQ Tryz.f44 ?_
 simp only[Tryz.f44]
 by_cases cg:l.length=m.length
 ·have hd:decide ((l.length:Int)=m.length)=true:=wz (by omega)
  simp(disch:=omega)only[↓aa,ab,simprocAttr,sa, *]
  all_goals try omega
  refine bC H [0,1,5] (fun T1 H1 u1 k1 n1 l1 g1=>?_) aw
  try simp(disch:=omega)only[sm,sl]at n1 l1 g1
  simp only[sq,simprocAttr]at u1
  refine bt kq (fun nn T X=>∃ i:Nat,nn=l.length-i∧(T.get 5=some (.int .i64 i))∧(T.get 0=T1.get 0∧T.get 1=T1.get 1)∧Ko H1 X∧X.lo=H1.lo∧(i≤l.length∧l.take i=m.take i)) ?_ ?_
  ·refine⟨_,0,rfl,?_,?_,Ko.refl _,rfl,⟨wJ _,rfl⟩⟩<;>exact ay
  rintro nn fk X1 ⟨i,rfl,m1,w1,bu,iz,⟨hi,hE⟩⟩ Qs hQ aD ai
  have cw:=k1.trans bu;have fp:=bu.ag;have fX:=bu.objs
  by_cases hlt:i<l.length
  ·obtain⟨r,o,cells,gg,tt,part,rfl,hr,aG,a8,rfl⟩:=bJ i l[i] (by simp)
   obtain⟨r2,o2,nq,EC,ED,xe,rfl,dW,jY,iV,rfl⟩:=HB i m[i] (by simp)
   have a1:=bI hlt
   have a2:=bI (show i<m.length by omega)
   have e1:=cw.objs r hr
   have e2:=cw.objs r2 dW
   have hx:l[i]? =some l[i]:=wj hlt
   have hy:m[i]? =some m[i]:=wj (by omega)
   generalize l[i]=x at a8 hx
   generalize m[i]=y at iV hy
   have a9:x≠y→decide (l=m)=false:=fun hh=>wx fun e=>by rw[e,hy]at hx;exact hh (waH hx).symm
   have jc:x=y→l.take (i+1)=m.take (i+1):=fun hh=>by rw[wR,wR,hE,hx,hy,hh]
   have zw:x=y↔x.ae=y.ae∧x.size=y.size:=⟨fun h=>by subst h;exact⟨rfl,rfl⟩,fun h=>by cases x;cases y;simp only at h;rw[h.1,h.2]⟩
   by_cases h1:x.ae=y.ae
   ·by_cases h2:x.size=y.size
    ·have h3:=jc (zw.2 ⟨h1,h2⟩)
     repeat'(first|(apply ao<;>intro)|refine az 6 [Fx,Fx,Fx,Fx,Fx,Fx,Fx,Fx,Fx] ?_|((with_reducible show Qs _ _ _ _ _);refine ai _ _ _ _ ?_)|simp(disch:=omega)only[↓aa,ab,simprocAttr,sa,bn,wbq, *])
     all_goals first|(refine hQ _ _ _ ?_ ⟨i+1,rfl,?_,?_,?_,?_,⟨by omega,h3⟩⟩<;>exact ay)|omega
    ·have h3:=a9 fun e=>h2 (zw.1 e).2
     have hb:(x.size==y.size)=false:=by simpa using h2
     repeat'(first|(apply ao<;>intro)|refine az 6 [Fx,Fx,Fx,Fx,Fx,Fx,Fx,Fx,Fx] ?_|((with_reducible show Qs _ _ _ _ _);first|refine ai _ _ _ _ ?_|refine aD _ _ _ ?_)|simp(disch:=omega)only[↓aa,ab,simprocAttr,sa,bn,wbq, *])
     all_goals exact cf
   ·have h3:=a9 fun e=>h1 (zw.1 e).1
    have hb:(x.ae==y.ae)=false:=by simpa using h1
    repeat'(first|(apply ao<;>intro)|refine az 6 [Fx,Fx,Fx,Fx,Fx,Fx,Fx,Fx,Fx] ?_|((with_reducible show Qs _ _ _ _ _);first|refine ai _ _ _ _ ?_|refine aD _ _ _ ?_)|simp(disch:=omega)only[↓aa,ab,simprocAttr,sa,bn,wbq, *])
    all_goals exact cf
  ·have hT:decide (l=m)=true:=wz (by
    have:i=l.length:=by omega
    subst this
    rw[waj,cg,waj]at hE
    exact hE)
   repeat'(first|(apply ao<;>intro)|refine az 6 [Fx,Fx,Fx,Fx,Fx,Fx,Fx,Fx,Fx] ?_|((with_reducible show Qs _ _ _ _ _);refine ai _ _ _ _ ?_)|simp(disch:=omega)only[↓aa,ab,simprocAttr,sa, *])
   all_goals exact cf
 ·have hF:decide (l=m)=false:=wx fun e=>cg (by rw[e])
  repeat'(first|(apply ao<;>intro)|apply bQ|simp(disch:=omega)only[↓aa,ab,simprocAttr,sa, *])
  all_goals exact cf
end Go.AM
