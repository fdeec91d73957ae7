/-
  Walks over letters of the functions that the law reaches; written small by a program of mine.
-/
import Derived.Test.YtjgppeeplkidpaaGreatGV4
import Derived.Test.YtjgppeeplkidpaaGreatGYG
import Derived.Test.YtjgppeeplkidpaaGreatGC17
import Derived.Test.YtjgppeeplkidpaaGreatGC8
set_option linter.unusedVariables false
set_option linter.unusedSectionVars false
namespace Go.AM
attribute [local instance] fnMaps
open Go Go.Proofs
set_option maxRecDepth 100000
set_option maxHeartbeats 4000000
set_option linter.unusedSimpArgs false
theorem zha(done:List Span)(x:Span)(l:List Span):iC done (x::l)=(decide (bw x)&&done.all (fun y=> !decide (kC x y))&&iC (done++[x]) l):=rfl
theorem Q0(H:Heap)(aj:H.lo≤H.next)(v:Value)(l:List Span)(hv:aZ bD 2 H v l):af E (aC 187) [v] H fun r H'=>r= .bool (iC [] l)∧aq H H':=by
 obtain⟨⟨a,ca,rfl,⟨_,jP⟩,bJ⟩, -⟩:=hv
 refine aQ Tryz.f187 ?_
 simp only[Tryz.f187]
 simp(disch:=omega)only[↓aa,ab,simprocAttr,sa, *]
 refine bC H [0,3] (fun T1 H1 u1 k1 n1 l1 g1=>?_) aw
 try simp(disch:=omega)only[sm,sl]at n1 l1 g1
 simp only[sq,simprocAttr]at u1
 refine bt kq (fun nn T X=>∃ i:Nat,nn=l.length-i∧(T.get 3=some (.int .i64 i))∧(T.get 0=T1.get 0)∧Ko H1 X∧X.lo=H1.lo∧(i≤l.length∧iC [] l=iC (l.take i) (l.drop i))) ?_ ?_
 ·refine⟨_,0,rfl,?_,?_,Ko.refl _,rfl,⟨wJ _,rfl⟩⟩<;>exact ay
 rintro nn fk X1 ⟨i,rfl,m1,w1,bu,iz,⟨hi,hE⟩⟩ Qs hQ aD ai
 have cw:=k1.trans bu;have fp:=bu.ag;have fX:=bu.objs
 by_cases hlt:i<l.length
 ·obtain⟨r,o,cells,gg,tt,part,rfl,hr,aG,a8,rfl⟩:=bJ i l[i] (by simp)
  have a1:=bI hlt
  have e1:=cw.objs r hr
  have bz:iC [] l=(decide (bw l[i])&&(l.take i).all (fun y=> !decide (kC l[i] y))&&iC (l.take (i+1)) (l.drop (i+1))):=by
   rw[hE,wX hlt,zha,wR,wj hlt]
   rfl
  clear hE
  generalize l[i]=x at a8 bz
  cases hm:decide (bw x)with
  |false=>
   rw[hm,wbj,wbj]at bz
   repeat'(first|(apply ao<;>intro)|((with_reducible show af _ _ _ _ _);refine ak H1 (iD _ ah x) ?_;intro H2 k2 l2 n2 g2 q2;try simp(disch:=omega)only[sm,sl]at l2 n2 g2 q2)|((with_reducible show Qs _ _ _ _ _);first|refine ai _ _ _ _ ?_|refine aD _ _ _ ?_)|simp(disch:=omega)only[↓aa,ab,simprocAttr,sa,bn, *])
   all_goals exact cf
  |true=>
   rw[hm,wa9]at bz
   repeat'(first|(apply ao<;>intro)|((with_reducible show af _ _ _ _ _);refine ak H1 (iD _ ah x) ?_;intro H2 k2 l2 n2 g2 q2;try simp(disch:=omega)only[sm,sl]at l2 n2 g2 q2)|((with_reducible show Qs _ _ _ _ _);refine ai _ _ _ _ ?_)|simp(disch:=omega)only[↓aa,ab,simprocAttr,sa,bn, *])
   all_goals try omega
   have fO:=hQ
   have uH:=aD
   refine ZX H H1 [0,3,4] (fun T3 H3 u3 k3 j3 n3 l3 g3=>?_) aw aw
   try simp(disch:=omega)only[sm,sl]at n3 l3 g3
   simp only[sq,simprocAttr]at u3
   refine bt kq (fun nn T X=>∃ j:Nat,nn=i-j∧(T.get 4=some (.int .i64 j))∧(T.get 0=T3.get 0∧T.get 3=T3.get 3)∧Ko H3 X∧X.lo=H3.lo∧(j≤i∧iC [] l=(((l.take i).drop j).all (fun y=> !decide (kC x y))&&iC (l.take (i+1)) (l.drop (i+1))))) ?_ ?_
   ·refine⟨_,0,rfl,?_,?_,Ko.refl _,rfl,⟨wJ _,bz⟩⟩<;>exact ay
   rintro nn O0 X3 ⟨j,rfl,m3,w3,om,O1,⟨hj,hF⟩⟩ Qs hQ aD ai
   have D6:=k3.trans om;have yD:=om.ag;have O2:=om.objs
   have e3:=D6.objs r hr
   clear bz
   by_cases ma:j<i
   ·obtain⟨r2,o2,nq,EC,ED,xe,Js,dW,jY,iV,rfl⟩:=bJ j (l[j]'(by omega)) (wj (by omega))
    cases Js
    rw[aG]at jY
    cases jY
    have a2:=bI (show j<l.length by omega)
    have gS:((l.take i).drop j).all (fun y=> !decide (kC x y))=(!decide (kC x (l[j]'(by omega)))&&((l.take i).drop (j+1)).all (fun y=> !decide (kC x y))):=by
     rw[wX (show j<(l.take i).length by rw[wU];omega),wbu,List.getElem_take]
    rw[gS]at hF
    clear gS
    generalize (l[j]'(by omega))=y at iV hF
    cases kW:decide (kC x y)with
    |true=>
     rw[kW,wa7,wbj,wbj]at hF
     repeat'(first|(apply ao<;>intro)|refine az 9 [Fx,Fx,Fx,Fx,Fx,Fx,Fx,Fx,Fx] ?_|((with_reducible show af _ _ _ _ _);refine ak H3 (QK _ ah x y) ?_;intro H2 k2 l2 n2 g2 q2;try simp(disch:=omega)only[sm,sl]at l2 n2 g2 q2)|((with_reducible show Qs _ _ _ _ _);first|refine ai _ _ _ _ ?_|refine aD _ _ _ ?_)|simp(disch:=omega)only[↓aa,ab,simprocAttr,sa,bn, *])
     all_goals try omega
     refine uH _ _ _ ?_
     simp(disch:=omega)only[↓aa,ab,simprocAttr,sa,bn, *]
     all_goals exact cf
    |false=>
     rw[kW,wb0,wa9]at hF
     repeat'(first|(apply ao<;>intro)|refine az 9 [Fx,Fx,Fx,Fx,Fx,Fx,Fx,Fx,Fx] ?_|((with_reducible show af _ _ _ _ _);refine ak H3 (QK _ ah x y) ?_;intro H2 k2 l2 n2 g2 q2;try simp(disch:=omega)only[sm,sl]at l2 n2 g2 q2)|((with_reducible show Qs _ _ _ _ _);refine ai _ _ _ _ ?_)|simp(disch:=omega)only[↓aa,ab,simprocAttr,sa,bn, *])
     all_goals try omega
     refine hQ _ _ _ ?_ ⟨j+1,rfl,?_,?_,?_,?_,⟨by omega,hF⟩⟩<;>exact ay
   ·have ej:j=i:=by omega
    have hF3:iC [] l=iC (l.take (i+1)) (l.drop (i+1)):=by
     rw[hF,ej,wbs (by rw[wU];omega)]
     rfl
    clear hF
    have dj:decide ((j:Int)<(i:Int))=false:=wx (by omega)
    clear ej
    repeat'(first|((with_reducible show Qs _ _ _ _ _);refine ai _ _ _ _ ?_)|simp(disch:=omega)only[↓aa,ab,simprocAttr,sa,bn, *])
    all_goals try omega
    have hQ:=fO
    have kk:Ko H1 X3:=j3.trans om
    refine hQ _ _ _ ?_ ⟨i+1,rfl,?_,?_,?_,?_,⟨by omega,hF3⟩⟩<;>exact ay
 ·have hT:iC [] l=true:=by
   rw[hE,wbs (by omega)]
   rfl
  clear hE
  repeat'(first|(apply ao<;>intro)|((with_reducible show Qs _ _ _ _ _);refine ai _ _ _ _ ?_)|simp(disch:=omega)only[↓aa,ab,simprocAttr,sa, *])
  all_goals exact cf
theorem QQ(H:Heap)(aj:H.lo≤H.next)(all:Span)(v w:Value)(l free:List Span)(hv:aZ bD 2 H v l)(hw:aZ bD 2 H w free)(hl:l.length≤300):af E (aC 129) [bn all,v,w] H fun r H'=>r= .bool (jQ all l free)∧aq H H':=by
 rw[←zcU]
 have iP:=hv
 obtain⟨⟨a,ca,rfl,⟨_,jP⟩,bJ⟩, -⟩:=hv
 refine aQ Tryz.f129 ?_
 simp only[Tryz.f129]
 simp only[bn]
 simp(disch:=omega)only[↓aa,ab,simprocAttr,sa,bn, *]
 refine bC H [1,2,3,7] (fun T1 H1 u1 k1 n1 l1 g1=>?_) aw
 try simp(disch:=omega)only[sm,sl]at n1 l1 g1
 simp only[sq,simprocAttr]at u1
 refine bt kq (fun nn T X=>∃ i:Nat,nn=l.length-i∧(T.get 7=some (.int .i64 i))∧(T.get 1=T1.get 1∧T.get 2=T1.get 2∧T.get 3=T1.get 3)∧Ko H1 X∧X.lo=H1.lo∧(i≤l.length∧kM all none l=kM all (l.take i).getLast? (l.drop i))) ?_ ?_
 ·refine⟨_,0,rfl,?_,?_,Ko.refl _,rfl,⟨wJ _,rfl⟩⟩<;>exact ay
 rintro nn fk X1 ⟨i,rfl,m1,w1,bu,iz,⟨hi,hE⟩⟩ Qs hQ aD ai
 have cw:=k1.trans bu;have fp:=bu.ag;have fX:=bu.objs
 by_cases hlt:i<l.length
 ·obtain⟨r,o,cells,gg,tt,part,rfl,hr,aG,a8,rfl⟩:=bJ i l[i] (by simp)
  have a1:=bI hlt
  have e1:=cw.objs r hr
  have hb:=cw.objs
  have bz:kM all none l=(decide (lC l[i] all)&&(match(l.take i).getLast? with|none=>true|some y=>decide (y.ae<l[i].ae))&&kM all (some l[i]) (l.drop (i+1))):=by
   rw[hE,wX hlt]
   exact Jc ..
  have jc:(l.take (i+1)).getLast? =some l[i]:=by
   rw[wR,wj hlt,wcx,List.getLast?_append]
   rfl
  have zd:∀ (h0:0<i),(l.take i).getLast? =some (l[i-1]'(by omega)):=fun h0=>by
   rw[List.getLast?_eq_getElem?,wU,waS (by omega),wcj (by omega),wj (by omega)]
  have iV:∀ (h0:0<i),∃y:Span,(l.take i).getLast? =some y∧cells[o+(i-1)*2]? =some (.int .i64 y.ae):=fun h0=>by
   obtain⟨r',o',nq,g2,t2,part,er,ct,kF,si,rfl⟩:=bJ (i-1) (l[i-1]'(by omega)) (wj (by omega))
   cases er
   rw[aG]at kF
   cases kF
   exact⟨_,zd h0,(qI si).1⟩
  obtain⟨c1,c2⟩:=qI a8
  rw[←jc]at bz
  clear hE zd jc hb
  generalize l[i]=x at a8 bz c1 c2
  have ziy:=bu.objs
  cases nu:decide (lC x all)with
  |false=>
   have hR:kM all none l=false:=by rw[bz,nu];rfl
   have hS:uK all l free=false:=by unfold uK;rw[hR];rfl
   clear bz iV
   repeat'(first|(apply ao<;>intro)|refine az 4 [Fx,Fx,Fx,Fx,Fx,Fx,Fx] ?_|((with_reducible show af _ _ _ _ _);refine ak H1 (Ey _ ah x all) ?_;intro H2 k2 l2 n2 g2 q2;try simp(disch:=omega)only[sm,sl]at l2 n2 g2 q2)|((with_reducible show Qs _ _ _ _ _);first|refine ai _ _ _ _ ?_|refine aD _ _ _ ?_)|simp(disch:=omega)only[↓aa,ab,simprocAttr,sa,bn, *])
   all_goals try omega
   all_goals exact cf
  |true=>
   rw[nu,wa9]at bz
   by_cases h0:i=0
   ·subst h0
    have d0:decide ((0:Int)<((0:Nat):Int))=false:=rfl
    have hE3:kM all none l=kM all (l.take (0+1)).getLast? (l.drop (0+1)):=bz
    clear bz iV
    rw[wb2,waX]at a8 c1
    repeat'(first|(apply ao<;>intro)|refine az 4 [Fx,Fx,Fx,Fx,Fx,Fx,Fx] ?_|refine az 6 [Fx,Fx,Fx,Fx,Fx,Fx,Fx,Fx,Fx,Fx,Fx,Fx,Fx,Fx,Fx,Fx] ?_|((with_reducible show af _ _ _ _ _);refine ak H1 (Ey _ ah x all) ?_;intro H2 k2 l2 n2 g2 q2;try simp(disch:=omega)only[sm,sl]at l2 n2 g2 q2)|((with_reducible show Qs _ _ _ _ _);refine ai _ _ _ _ ?_)|simp(disch:=omega)only[↓aa,ab,simprocAttr,sa,bn, *])
    all_goals try omega
    refine hQ _ _ _ ?_ ⟨0+1,rfl,?_,?_,?_,?_,⟨by omega,hE3⟩⟩<;>exact ay
   ·obtain⟨y,q1,q2⟩:=iV (by omega)
    rw[q1]at bz
    have d0:decide ((0:Int)<(i:Int))=true:=wz (by omega)
    have d1:(i:Int)-1=((i-1:Nat):Int):=by omega
    have a2:=bI (show i-1<l.length by omega)
    clear iV q1
    cases mF:decide (y.ae<x.ae)with
    |true=>
     have Jt:=wap mF
     simp only[mF,wa9]at bz
     have d2:decide (x.ae≤y.ae)=false:=wx (by omega)
     clear mF Jt
     repeat'(first|(apply ao<;>intro)|refine az 4 [Fx,Fx,Fx,Fx,Fx,Fx,Fx] ?_|refine az 6 [Fx,Fx,Fx,Fx,Fx,Fx,Fx,Fx,Fx,Fx,Fx,Fx,Fx,Fx,Fx,Fx] ?_|((with_reducible show af _ _ _ _ _);refine ak H1 (Ey _ ah x all) ?_;intro H2 k2 l2 n2 g2 q2;try simp(disch:=omega)only[sm,sl]at l2 n2 g2 q2)|((with_reducible show Qs _ _ _ _ _);refine ai _ _ _ _ ?_)|simp(disch:=omega)only[↓aa,ab,simprocAttr,sa,bn, *])
     all_goals try omega
     refine hQ _ _ _ ?_ ⟨i+1,rfl,?_,?_,?_,?_,⟨by omega,bz⟩⟩<;>exact ay
    |false=>
     have Jt:=wbI mF
     have hR:kM all none l=false:=by rw[bz];simp only[mF,wbj]
     have hS:uK all l free=false:=by unfold uK;rw[hR];rfl
     have d2:decide (x.ae≤y.ae)=true:=wz (by omega)
     clear mF Jt bz
     repeat'(first|(apply ao<;>intro)|refine az 4 [Fx,Fx,Fx,Fx,Fx,Fx,Fx] ?_|refine az 6 [Fx,Fx,Fx,Fx,Fx,Fx,Fx,Fx,Fx,Fx,Fx,Fx,Fx,Fx,Fx,Fx] ?_|((with_reducible show af _ _ _ _ _);refine ak H1 (Ey _ ah x all) ?_;intro H2 k2 l2 n2 g2 q2;try simp(disch:=omega)only[sm,sl]at l2 n2 g2 q2)|((with_reducible show Qs _ _ _ _ _);first|refine ai _ _ _ _ ?_|refine aD _ _ _ ?_)|simp(disch:=omega)only[↓aa,ab,simprocAttr,sa,bn, *])
     all_goals try omega
     all_goals exact cf
 ·have hR:kM all none l=true:=by
   rw[hE,wbs (by omega)]
   cases(l.take i).getLast?<;>rfl
  have hS:uK all l free=(iC [] l&&decide (pY all l=free)):=by unfold uK;rw[hR,wa9]
  clear hE
  have hvX:=aZ.ko bD.mono iP cw
  have hwX:=aZ.ko bD.mono hw cw
  cases di:iC [] l with
  |false=>
   rw[di,wbj]at hS
   repeat'(first|(apply ao<;>intro)|refine az 4 [Fx,Fx,Fx,Fx,Fx,Fx,Fx] ?_|((with_reducible show af _ _ _ _ _);refine ak H1 (Q0 _ ah _ l (aZ.ko bD.mono iP aw)) ?_;intro H2 k2 l2 n2 g2 q2;try simp(disch:=omega)only[sm,sl]at l2 n2 g2 q2)|((with_reducible show Qs _ _ _ _ _);refine ai _ _ _ _ ?_)|simp(disch:=omega)only[↓aa,ab,simprocAttr,sa,bn, *])
   all_goals try omega
   all_goals exact cf
  |true=>
   rw[di,wa9]at hS
   repeat'(first|(apply ao<;>intro)|refine az 4 [Fx,Fx,Fx,Fx,Fx,Fx,Fx] ?_|((with_reducible show af _ _ _ _ _);refine ak H1 (Q0 _ ah _ l (aZ.ko bD.mono iP aw)) ?_;intro H2 k2 l2 n2 g2 q2;try simp(disch:=omega)only[sm,sl]at l2 n2 g2 q2)|((with_reducible show Qs _ _ _ _ _);refine ai _ _ _ _ ?_)|simp(disch:=omega)only[↓aa,ab,simprocAttr,sa,bn, *])
   all_goals try omega
   refine af.mono (zg8 H2 (by omega) all _ l (aZ.ko bD.mono iP aw) hl) ?_
   rintro rr Y ⟨hg,sY⟩
   have kY:Ko H Y:=k1.trans (k2.trans sY.ko)
   have xq:=sY.lo
   refine af.mono (zgM Y (by have:=sY.ag;omega) _ w _ free hg (aZ.ko bD.mono hw kY)) ?_
   rintro rr Z ⟨rfl,sZ⟩
   have kZ:Ko H Z:=kY.trans sZ.ko
   exact⟨rfl,kZ.same (by have:=sZ.lo;omega)⟩
theorem zhb{ws:List Nat}{top p:Int}(h1:p<top)(h2:iA ws top p=0):dO ws top (top-p).toNat p=⟨p,aT ws p,0,false⟩::dO ws top (top-(p+cu (aT ws p))).toNat (p+cu (aT ws p)):=by
 have hz:=vZ (qT h2).1
 obtain⟨n,hn⟩:∃ n,(top-p).toNat=n+1:=⟨(top-p).toNat-1,by omega⟩
 rw[hn,dO,wF h1,wF h2,HT n (top-(p+cu (aT ws p))).toNat (p+cu (aT ws p)) (by omega) (by omega)]
theorem zhc{ws:List Nat}{top p:Int}(h1:p<top)(h2:iA ws top p≠0):dO ws top (top-p).toNat p=[⟨p,gJ,iA ws top p,true⟩]:=by
 obtain⟨n,hn⟩:∃ n,(top-p).toNat=n+1:=⟨(top-p).toNat-1,by omega⟩
 rw[hn,dO,wF h1,wI h2]
theorem zhd{ws:List Nat}{top p:Int}(h1:¬ p<top):dO ws top (top-p).toNat p=[⟨p,gJ,0,true⟩]:=by
 rw[show(top-p).toNat=0 by omega,dO]
def ji(ws:List Nat)(top p:Int):List mn:=dO ws top (top-p).toNat p
theorem Ju(ws:List Nat)(s:Span)(top:Int)(h:bw s∧s.ae≤top∧top≤s.stop):iR ws s top=if(kI (ji ws top s.ae)).2=0 then(gC (ji ws top s.ae),0)else([],(kI (ji ws top s.ae)).2):=by
 unfold iR mo
 rw[wF h]
 rfl
theorem EJ(ws:List Nat)(s:Span)(top:Int)(h:¬ (bw s∧s.ae≤top∧top≤s.stop)):iR ws s top=([],1):=by
 unfold iR mo
 rw[wI h]
 rfl
theorem zhe(ws:List Nat)(top p:Int):ji ws top p≠[]:=fun e=>by
 have:=HU ws top (top-p).toNat p
 rw[show dO ws top (top-p).toNat p=[]from e]at this
 exact this
theorem zhf{x:mn}{l:List mn}(h:l≠[]):kI (x::l)=kI l:=by
 cases l with
 |nil=>exact absurd rfl h
 |cons y l=>rfl
theorem QN(H:Heap)(aj:H.lo≤H.next)(v:Value)(ws:List Nat)(hv:aZ RW 1 H v ws)(hu:∀ w∈ws,w<2^64)(hl:ws.length≤98304)(s:Span)(top:Int)(ri: -9223372036854775808≤top∧top≤9223372036854775807):af E (aC 87) [v,bn s,.int .i64 top] H fun r H'=>(∃(w:Value) (k:Int),r= .tuple #[w,.int .i64 k,.int .i64 (iR ws s top).2]∧aZ (dd .i64) 1 H' w (iR ws s top).1∧dK H.next 1 H' w (iR ws s top).1.length ((iR ws s top).1.map db))∧aq H H':=by
 refine aQ Tryz.f87 ?_
 simp only[Tryz.f87]
 simp only[bn]
 by_cases hm:bw s
 ·have eE:=hm
  unfold bw at eE
  by_cases h1:s.ae≤top∧top≤s.ae+s.size
  ·rw[Ju ws s top ⟨hm,h1⟩]
   repeat'(first|(apply ao<;>intro)|apply bQ|((with_reducible show af _ _ _ _ _);refine ak H (iD _ ah s) ?_;intro H2 k2 l2 n2 g2 q2;try simp(disch:=omega)only[sm,sl]at l2 n2 g2 q2)|simp(disch:=omega)only[↓aa,ab,simprocAttr,sa,bn,wz hm, *])
   all_goals try omega
   refine bC H [0,2,9,10] (fun T1 H1 u1 k1 n1 l1 g1=>?_) aw
   try simp(disch:=omega)only[sm,sl]at n1 l1 g1
   simp only[sq,simprocAttr]at u1
   refine bt kq (fun nn T X=>∃ (p:Int) (w:Value) (acc:List Int),nn=(top-p).toNat∧(T.get 9=some (w)∧T.get 10=some (.int .i64 p))∧(T.get 0=T1.get 0∧T.get 2=T1.get 2)∧True∧True∧(0≤p∧s.ae≤p∧p≤top∧(acc.length:Int)≤p-s.ae∧kI (ji ws top s.ae)=kI (ji ws top p)∧gC (ji ws top s.ae)=acc++gC (ji ws top p)∧dK H.next 1 X w acc.length (acc.map db)∧aq H X)) ?_ ?_
   ·refine⟨_,s.ae,_,.nil,rfl,?_,?_,trivial,trivial,by omega,Int.le_refl _,by omega,by simp,rfl,rfl,⟨rfl,.inl ⟨rfl,rfl⟩⟩,by first|exact k1.same (by omega)⟩<;>exact ay
   rintro nn fk X1 ⟨p,w,acc,rfl,m1,w1,_,_,nw,Bf,oI,LJ,hE,hA,hO,hS⟩ Qs hQ aD ai
   have EA:=hS.lo
   have EB:=hS.ag
   by_cases Jv:p<top
   ·cases oc:decide (iA ws top p=0)with
    |true=>
     have oR:=wap oc
     have xw:ji ws top p=⟨p,aT ws p,0,false⟩::ji ws top (p+cu (aT ws p)):=zhb Jv oR
     have hz:=vZ (qT oR).1
     have uj:=qT oR
     have cn:=kE uj.1
     have bh:=yy (h:=aT ws p)
     have bz:kI (ji ws top s.ae)=kI (ji ws top (p+cu (aT ws p))):=by rw[hE,xw,zhf (zhe ws top _)]
     have pL:gC (ji ws top s.ae)=(acc++[p])++gC (ji ws top (p+cu (aT ws p))):=by
      rw[hA,xw,waP]
      rfl
     clear hE hA xw
     simp(disch:=omega)only[↓aa,ab,simprocAttr,sa, *]
     all_goals try omega
     refine af.mono (rn _ ah v ws (aZ.ko RW.mono hv hS.ko) hu p (by omega) (by omega)) ?_
     rintro rr Y ⟨rfl,sY⟩
     have iE:=hS.trans sY
     have xq:=iE.lo
     have xr:=iE.ag
     have BA:=hO.same sY
     have ziz:(acc.length:Int)+1≤ws.length:=by omega
     clear sY cn
     simp only[bK]
     repeat'(first|(apply ao<;>intro)|((with_reducible show af _ _ _ _ _);refine ak Y (rp _ ah (aT ws p)) ?_;intro H2 k2 l2 n2 g2 q2;try simp(disch:=omega)only[sm,sl]at l2 n2 g2 q2)|((with_reducible show Qs _ _ _ _ _);refine aD _ _ _ ?_)|simp(disch:=omega)only[↓aa,ab,simprocAttr,sa,bK,uj.1, *])
     all_goals try omega
     have Q1:aq Y H2:=aF
     obtain⟨H3,xt,mD,rj,yV⟩:=vO (size:=1) (bytes:=8) (k:=1) (new:=[.int .i64 p]) (BA.same (Q1.trans (fx [.int .i64 p]))) (by simp(disch:=omega)only[aA,aM,aB,aJ,aH,aI,aN,aO,aR,aP,aL,aE,aK,au,sl];omega) (by simp(disch:=omega)only[aA,aM,aB,aJ,aH,aI,aN,aO,aR,aP,aL,aE,aK,au,sl];omega) (by omega) rfl rfl (mW (by omega))
     have s3:aq H H3:=rj.same (iE.trans (Q1.trans (fx _))) (wy _)
     have Jg:=s3.lo
     rw[aB]at mD xt
     have mE:dK H.next 1 H3 (.slice (some ⟨H2.next+1,0,none⟩) (acc.length+1) (acc.length+1)) (acc++[p]).length ((acc++[p]).map db):=by
      rw[wN,waT]
      exact mD
     have mJ:(acc++[p]).length=acc.length+1:=wN
     generalize acc++[p]=a2 at mE pL mJ
     simp(disch:=omega)only[↓aa,ab,simprocAttr,sa,cC,nF, *]
     all_goals try omega
     refine hQ _ _ _ ?_ ⟨p+cu (aT ws p),_,a2,rfl,?_,?_,trivial,trivial,by omega,by omega,by omega,by omega,bz,pL,mE,s3⟩<;>exact ay
    |false=>
     have oR:=wbI oc
     have jf:ji ws top p=[⟨p,gJ,iA ws top p,true⟩]:=zhc Jv oR
     have bz:(kI (ji ws top s.ae)).2=iA ws top p:=by
      rw[hE,jf]
      rfl
     have a9:¬ (kI (ji ws top s.ae)).2=0:=by
      rw[bz]
      exact oR
     clear hE hA jf oc
     by_cases hh:cF ws p=0
     ·have h2:iA ws top p=2:=by
       unfold iA at oR⊢
       split
       ·rfl
       ·rename_i hx
        rw[wI hx]at oR
        exact absurd hh oR
      have Np:top<p+cu (aT ws p):=by
       refine Int.not_le.mp fun hx=>oR ?_
       unfold iA
       rw[wI (by omega)]
       exact hh
      have cn:=kE hh
      have bh:=yy (h:=aT ws p)
      have hp3:p<ws.length:=cn.2.1
      clear cn oR
      rw[h2]at bz
      clear h2
      simp(disch:=omega)only[↓aa,ab,simprocAttr,sa, *]
      all_goals try omega
      refine af.mono (rn _ ah v ws (aZ.ko RW.mono hv hS.ko) hu p (by omega) (by omega)) ?_
      rintro rr Y ⟨rfl,sY⟩
      have iE:=hS.trans sY
      have xq:=iE.lo
      have xr:=iE.ag
      rw[hh]
      clear sY hh
      simp only[bK]
      repeat'(first|((with_reducible show af _ _ _ _ _);refine ak Y (rp _ ah (aT ws p)) ?_;intro H2 k2 l2 n2 g2 q2;try simp(disch:=omega)only[sm,sl]at l2 n2 g2 q2)|((with_reducible show Qs _ _ _ _ _);refine aD _ _ _ ?_)|simp(disch:=omega)only[↓aa,ab,simprocAttr,sa,bK, *])
      all_goals try omega
      exact⟨⟨_,_,rfl,aZ.nil,⟨rfl,.inl ⟨rfl,rfl⟩⟩⟩,iE.trans aF⟩
     ·have h2:iA ws top p=cF ws p:=by
       unfold iA
       rw[wI (fun hx=>hh hx.1)]
      rw[h2]at bz
      have d2:decide (cF ws p=0)=false:=wx hh
      clear h2 hh oR
      simp(disch:=omega)only[↓aa,ab,simprocAttr,sa, *]
      all_goals try omega
      refine af.mono (rn _ ah v ws (aZ.ko RW.mono hv hS.ko) hu p (by omega) (by omega)) ?_
      rintro rr Y ⟨rfl,sY⟩
      have iE:=hS.trans sY
      have xq:=iE.lo
      have xr:=iE.ag
      clear sY
      simp only[bK]
      repeat'(first|((with_reducible show Qs _ _ _ _ _);refine aD _ _ _ ?_)|simp(disch:=omega)only[↓aa,ab,simprocAttr,sa,bK, *])
      all_goals try omega
      rw[wI (wbI d2)]
      exact⟨⟨_,_,rfl,aZ.nil,⟨rfl,.inl ⟨rfl,rfl⟩⟩⟩,iE.trans aF⟩
   ·have jF:ji ws top p=[⟨p,gJ,0,true⟩]:=zhd Jv
    have ep:p=top:=by omega
    subst ep
    rw[jF]at hE hA
    have bz:(kI (ji ws p s.ae)).2=0:=by rw[hE];rfl
    have pL:gC (ji ws p s.ae)=acc:=by rw[hA];exact waw _
    clear hE hA jF
    have hR:=Bw hO rfl (by omega) (D8 X1 _)
    repeat'(first|((with_reducible show Qs _ _ _ _ _);refine ai _ _ _ _ ?_)|simp(disch:=omega)only[↓aa,ab,simprocAttr,sa, *])
    all_goals try omega
    exact⟨_,_,rfl,hR,hO⟩
  ·have fK:¬ (bw s∧s.ae≤top∧top≤s.stop):=fun h=>h1 h.2
   rw[EJ ws s top fK]
   repeat'(first|(apply ao<;>intro)|apply bQ|((with_reducible show af _ _ _ _ _);refine ak H (iD _ ah s) ?_;intro H2 k2 l2 n2 g2 q2;try simp(disch:=omega)only[sm,sl]at l2 n2 g2 q2)|simp(disch:=omega)only[↓aa,ab,simprocAttr,sa,bn,wz hm, *])
   all_goals try omega
   all_goals exact⟨⟨_,_,rfl,aZ.nil,⟨rfl,.inl ⟨rfl,rfl⟩⟩⟩,aF⟩
 ·have fK:¬ (bw s∧s.ae≤top∧top≤s.stop):=fun h=>hm h.1
  rw[EJ ws s top fK]
  repeat'(first|((with_reducible show af _ _ _ _ _);refine ak H (iD _ ah s) ?_;intro H2 k2 l2 n2 g2 q2;try simp(disch:=omega)only[sm,sl]at l2 n2 g2 q2)|simp(disch:=omega)only[↓aa,ab,simprocAttr,sa,bn,wx hm, *])
  all_goals try omega
  all_goals exact⟨⟨_,_,rfl,aZ.nil,⟨rfl,.inl ⟨rfl,rfl⟩⟩⟩,aF⟩
def aU(s:St):List Int:=(da s).1++s.table.map (·.ae)
theorem dK.down{b c z n:Nat}{H:Heap}{v:Value}{cs:List Value}(h:dK b z H v n cs)(hc:c≤b):dK c z H v n cs:=by
 obtain⟨h0,h1|⟨r,h1,h2,h3,h4|⟨g,aS,h4,h5,h6,h7⟩⟩⟩:=h
 ·exact⟨h0,.inl h1⟩
 ·exact⟨h0,.inr ⟨r,h1,wK hc h2,h3,.inl h4⟩⟩
 ·exact⟨h0,.inr ⟨r,h1,wK hc h2,h3,.inr ⟨g,aS,h4,wK hc h5,h6,h7⟩⟩⟩
theorem QM(H:Heap)(aj:H.lo≤H.next){s:St}{w t f zl:Value}(hS:iQ H s w t f zl)(hu:∀ x∈s.words,x<2^64)(hl:s.words.length≤98304)(ht:s.table.length≤1000)(ri: -9223372036854775808≤s.top∧s.top≤9223372036854775807)(ft:(da s).1.length≤50000):af E (aC 93) [df s w t f zl] H fun r H'=>(aZ (dd .i64) 1 H' r (aU s)∧dK H.next 1 H' r (aU s).length ((aU s).map db))∧aq H H':=by
 have hv:=hS.t
 have lG:=hS.w
 obtain⟨⟨wa,wc,rfl,_⟩,_⟩:=hS.w
 obtain⟨⟨fa,fc,rfl,_⟩,_⟩:=hS.f
 obtain⟨⟨jS,sc,rfl,_⟩,_⟩:=hS.sl
 obtain⟨⟨ta,tc,rfl,⟨_,jP⟩,bJ⟩, -⟩:=hv
 clear hS
 refine aQ Tryz.f93 ?_
 simp only[Tryz.f93]
 unfold df
 repeat'(first|refine az 1 [Fx,Fx,Fx,Fx,Fx,Fx,Tx,Fx,Fx,Fx,Fx,Fx,Fx,Fx,Fx,Fx,Fx] ?_|((with_reducible show af _ _ _ _ _);refine ak H (Je _ ah s.cfg s.second) ?_;intro H2 k2 l2 n2 g2 q2;try simp(disch:=omega)only[sm,sl]at l2 n2 g2 q2)|simp(disch:=omega)only[↓aa,ab,simprocAttr,sa,cD,bn, *])
 all_goals try omega
 have kZ:Ko H2 (H2.cd H.lo):=aw
 have sZ:aq H (H2.cd H.lo):=(k2.trans kZ).same (aK H.lo)
 have lu:H.next<(H2.cd H.lo).next:=wq (wcd _) (wK n2 kZ.ag)
 have eB:=(kZ.objs H.next (by omega)).trans (g2 H.next (by omega))
 simp only[wbq,wai]at eB
 refine af.mono (QN _ ah _ s.words (aZ.ko RW.mono lG sZ.ko) hu hl (s.cfg.dI s.second) s.top ri) ?_
 generalize H2.cd H.lo=Z at*
 rintro rr Y ⟨⟨w1,k1,rfl, -,hO⟩,sY⟩
 rw[show iR s.words (s.cfg.dI s.second) s.top=da s from rfl]at hO⊢
 have loZ:=sZ.lo
 have xq:=sY.lo
 have xr:=sY.ag
 have eY:=sY.keeps lu eB
 simp(disch:=omega)only[↓aa,ab,simprocAttr,sa,cD,bn, *]
 all_goals try omega
 refine bC Y [1,3,6] (fun T1 H1 u1 j1 n1 l1 g1=>?_) aw
 try simp(disch:=omega)only[sm,sl]at n1 l1 g1
 simp only[sq,simprocAttr]at u1
 refine bt kq (fun nn T X=>∃ (i:Nat) (v:Value),nn=s.table.length-i∧(T.get 3=some (v)∧T.get 6=some (.int .i64 i))∧(T.get 1=T1.get 1)∧True∧True∧(i≤s.table.length∧dK Z.next 1 X v ((da s).1++(s.table.take i).map (·.ae)).length (((da s).1++(s.table.take i).map (·.ae)).map db)∧aq Z X)) ?_ ?_
 ·have QO:aq Y H1:=j1.same l1
  have nE:=hO.same QO
  rw[←waw (da s).1]at nE
  refine⟨_,0,_,rfl,?_,?_,trivial,trivial,wJ _,nE,sY.trans QO⟩<;>exact ay
 rintro nn fk X1 ⟨i,vo,rfl,m1,w1,_,_,hi,eO,hS⟩ Qs hQ aD ai
 have EA:=hS.lo
 have EB:=hS.ag
 have eX:=hS.keeps lu eB
 have pk:(s.table.map (·.ae)).length=s.table.length:=wO _
 by_cases hlt:i<s.table.length
 ·obtain⟨r,o,cells,gg,tt,part,rfl,hr,aG,a8,rfl⟩:=bJ i s.table[i] (by simp)
  have a1:=bI hlt
  have e1:=(sZ.trans hS).keeps hr aG
  have bz:(da s).1++(s.table.take (i+1)).map (·.ae)=((da s).1++(s.table.take i).map (·.ae))++[s.table[i].ae]:=by
   rw[wR,wj hlt,wcx,waT,waP]
   rfl
  have cg:((da s).1++(s.table.take i).map (·.ae)).length≤51000:=by
   rw[wN,wO,wU]
   omega
  generalize (da s).1++(s.table.take i).map (·.ae)=L1 at bz eO cg
  generalize s.table[i]=x at a8 bz
  obtain⟨c1,c2⟩:=qI a8
  obtain⟨H3,xt,mD,rj,yV⟩:=vO (size:=1) (bytes:=8) (k:=1) (new:=[.int .i64 x.ae]) (eO.same (fx [.int .i64 x.ae])) (by simp(disch:=omega)only[aA,aM,aB,aJ,aH,aI,aN,aO,aR,aP,aL,aE,aK,au,sl];omega) (by simp(disch:=omega)only[aA,aM,aB,aJ,aH,aI,aN,aO,aR,aP,aL,aE,aK,au,sl];omega) (by omega) rfl rfl (mW (by omega))
  have s3:aq Z H3:=rj.same (hS.trans (fx _)) (wy _)
  have Jg:=s3.lo
  rw[aB]at mD xt
  have mE:dK Z.next 1 H3 (.slice (some ⟨X1.next+1,0,none⟩) (L1.length+1) (L1.length+1)) ((da s).1++(s.table.take (i+1)).map (·.ae)).length (((da s).1++(s.table.take (i+1)).map (·.ae)).map db):=by
   rw[bz,wN,waT]
   exact mD
  clear bz
  repeat'(first|(apply ao<;>intro)|((with_reducible show Qs _ _ _ _ _);refine ai _ _ _ _ ?_)|simp(disch:=omega)only[↓aa,ab,simprocAttr,sa,cC,nF, *])
  all_goals try omega
  refine hQ _ _ _ ?_ ⟨i+1,_,rfl,?_,?_,trivial,trivial,by omega,mE,s3⟩<;>exact ay
 ·have ei:i=s.table.length:=by omega
  subst ei
  rw[waj]at eO
  have hR:=Bw eO rfl (by rw[wN];omega) (D8 X1 _)
  repeat'(first|(apply ao<;>intro)|((with_reducible show Qs _ _ _ _ _);refine ai _ _ _ _ ?_)|simp(disch:=omega)only[↓aa,ab,simprocAttr,sa, *])
  all_goals try omega
  exact⟨⟨hR,eO.down (waz lu)⟩,sZ.trans hS⟩
def ey(all:List Int)(w:Nat):bM:=if((dS w).getD .none).kind=2 then⟨2,(all.idxOf ((dS w).getD .none).x:Nat)⟩else(dS w).getD .none
def qd(ws:List Nat)(p:Int):List Nat:=(ws.drop (p.toNat+1)).take (aT ws p).fields.toNat
def ry(ws:List Nat)(p:Int):List Nat:=(ws.drop (p.toNat+1+(aT ws p).fields.toNat)).take (aT ws p).bO.toNat
def qe(ws:List Nat)(all:List Int)(p:Int):Gn:=⟨(aT ws p).kind,(qd ws p).map (ey all),ry ws p⟩
def fN(l:List Slot)(all:List Int):List bM:=(l.filter (·.used)).map fun x=>ey all x.word
def bU(s:St):Gr:=⟨(aU s).map (qe s.words (aU s)),fN s.bj (aU s)⟩
def uO(all:List Int)(w:Nat):Prop:=∃ v,dS w=some v∧(v.kind=2→v.x∈all)
structure Rt(s:St):Prop where
 nodup:(aU s).Nodup
 obj:∀ p∈aU s,cF s.words p=0
 vJ:∀ p∈aU s,∀k:Nat,(k:Int)<(aT s.words p).fields→uO (aU s) (cY s.words (p+1+k))
 slot:∀ x∈s.bj,x.used=true→uO (aU s) x.word
theorem I6(s:St):∀ n i,sC s i n=0→∀ k,i≤k→k<i+n→jV s k=true
 |0,i,_,k,h1,h2=>by omega
 |n+1,i,h,k,h1,h2=>by
  unfold sC at h
  split at h
  ·rename_i hb
   by_cases e:k=i
   ·rw[e];exact hb
   ·exact I6 s n (i+1) h k (by omega) (by omega)
  ·omega
theorem zhH(v:mn)(l:List mn)(h:v.last=false):gC (v::l)=v.ae::gC l:=by
 unfold gC
 rw[wce,h]
 rfl
theorem Ru{ws:List Nat}{top:Int}:∀ (n:Nat) (p:Int),(∀x∈gC (dO ws top n p),p≤x∧x<top)∧(gC (dO ws top n p)).Nodup
 |0,p=>⟨fun x h=>(by cases h),wbv⟩
 |n+1,p=>by
  rw[dO]
  split
  ·rename_i h1
   split
   ·rename_i h2
    have h3:=vZ (qT h2).1
    obtain⟨i1,i2⟩:=Ru n (p+cu (aT ws p)) (ws:=ws) (top:=top)
    rw[zhH _ _ rfl]
    refine⟨fun x hx=>?_,List.nodup_cons.2 ⟨fun hx=>?_,i2⟩⟩
    ·rcases wad.1 hx with rfl|hx
     ·exact⟨Int.le_refl _,h1⟩
     ·have:=i1 x hx;omega
    ·have:=i1 _ hx
     dsimp only at this
     omega
   ·exact⟨fun x h=>(by cases h),wbv⟩
  ·exact⟨fun x h=>(by cases h),wbv⟩
theorem Rv{all:Span}:∀ {l:List Span} {p:Option Span},fI all p l=true→(l.map (·.ae)).Nodup
 |[],_,_=>wbv
 |x::l,p,h=>by
  rw[vY,wA]at h
  have h2:=Rv h.2
  obtain⟨_,_,h3⟩:=uv h.2
  rw[wbk]
  refine List.nodup_cons.2 ⟨fun hx=>?_,h2⟩
  obtain⟨y,hy,e⟩:=wbG.1 hx
  have h4:=h3 x rfl y hy
  rw[wA]at h
  have h5:=wap h.1.1 |>.1
  unfold bw at h5
  omega
theorem J1(x:Int):∀ (l ks:List Int),x∈l.foldl oP ks↔x∈ks∨x∈l
 |[],ks=>by simp
 |y::l,ks=>by
  rw[wb4,J1 x l]
  unfold oP
  split
  ·rename_i h
   simp only[wad]
   constructor
   ·rintro(h1|h1)
    ·exact .inl h1
    ·exact .inr (.inr h1)
   ·rintro(h1|h1|h1)
    ·exact .inl h1
    ·subst h1;exact .inl h
    ·exact .inr h1
  ·simp only[waI,wad,wbb,wck]
   constructor
   ·rintro((h1|h1)|h1)
    ·exact .inl h1
    ·exact .inr (.inl h1)
    ·exact .inr (.inr h1)
   ·rintro(h1|h1|h1)
    ·exact .inl (.inl h1)
    ·exact .inl (.inr h1)
    ·exact .inr h1
theorem mem_keys(s:St)(x:Int):x∈gL s↔x∈aU s:=by
 have e:gL s=(s.table.map (·.ae)).foldl oP (sw s):=by unfold gL AT;rw[List.foldl_map]
 rw[e,J1,aU,waI]
 unfold sw
 rw[J1]
 simp
theorem Rw{s:St}{w:Nat}(h:fz (gL s) w=true):uO (aU s) w:=by
 unfold fz at h
 cases hd:dS w with
 |none=>rw[hd]at h;cases h
 |some v=>
  rw[hd]at h
  refine⟨v,hd,fun hk=>?_⟩
  have h:(if v.kind=2 then decide (v.x∈gL s)else true)=true:=h
  rw[wF hk]at h
  exact(mem_keys s _).1 (wap h)
theorem IA{s:St}(h:ef s=0):Rt s:=by
 have hr:=fun k hk=>I6 s 9 0 h k (wJ _) (by omega:k<0+9)
 have r0:s.cfg.Ok:=wap (hr 0 (by omega))
 have r2:oi s:=wap (hr 2 (by omega))
 have r5:ig s=true:=hr 5 (by omega)
 have r7:(gL s).all (jx s.words (gL s))=true:=hr 7 (by omega)
 have r8:s.bj.all (iS (gL s))=true:=hr 8 (by omega)
 unfold ig at r5
 rw[wA]at r5
 have uy:fI s.cfg.jr none s.table=true:=by
  have:=r5.1
  unfold jQ at this
  rw[wA]at this
  exact this.1
 have gx:(∀x∈(da s).1,x<s.top)∧(da s).1.Nodup:=by
  unfold da
  by_cases h:bw (s.cfg.dI s.second)∧(s.cfg.dI s.second).ae≤s.top∧s.top≤(s.cfg.dI s.second).stop
  ·rw[Ju _ _ _ h]
   split
   ·obtain⟨i1,i2⟩:=Ru (ws:=s.words) (top:=s.top) (s.top-(s.cfg.dI s.second).ae).toNat (s.cfg.dI s.second).ae
    exact⟨fun x hx=>(i1 x hx).2,i2⟩
   ·exact⟨fun x h=>(by cases h),wbv⟩
  ·rw[EJ _ _ _ h]
   exact⟨fun x h=>(by cases h),wbv⟩
 have dn:∀ p∈aU s,cF s.words p=0:=fun p hp=>by
  rcases waI.1 hp with hp|hp
  ·exact(AS s p hp).1
  ·obtain⟨y,hy,rfl⟩:=wbG.1 hp
   have:=waC.1 r5.2 y hy
   unfold fB at this
   simp only[wA]at this
   exact wap this.1.1.1
 refine⟨?_,dn,fun p hp k hk=>?_,fun x hx hu=>?_⟩
 ·refine List.nodup_append.2 ⟨gx.2,Rv uy,fun a ha b hb e=>?_⟩
  obtain⟨y,hy,rfl⟩:=wbG.1 hb
  have h1:=gx.1 a ha
  have h2:=(uv uy).1 y hy
  unfold qR at h2
  unfold oi at r2
  have hM:=h2.1
  unfold bw at hM
  have hc:=r0
  unfold cm.Ok at hc
  have hb:s.cfg.jr=s.cfg.yw:=wF r0
  have hf:s.cfg.dI s.second=if s.second then⟨s.cfg.mh,s.cfg.mh⟩else⟨0,s.cfg.mh⟩:=wF r0
  rw[hb]at h2
  unfold cm.yw at h2
  rw[hf]at r2
  split at h2<;>split at r2<;>dsimp only at h2 r2<;>omega
 ·have h1:=waC.1 r7 p ((mem_keys s p).2 hp)
  unfold jx at h1
  have hf:=kE (dn p hp)
  have hh:=jO hf.2.2.1
  have h2:=waC.1 h1 k (wcc.2 (by omega))
  have e1:iO s.words p k false=0:=by
   unfold iO
   rw[wF (dn p hp)]
   exact wF ⟨by omega,hk⟩
  have e2:jt s.words p k false=cY s.words (p+1+k):=by
   unfold jt kD
   rw[wF e1,wF e1]
   simp
  rw[e2]at h2
  exact Rw h2
 ·have h1:=waC.1 r8 x hx
  unfold iS at h1
  rw[hu]at h1
  exact Rw h1
theorem zhI(x:Int): -9223372036854775808≤IntKind.i64.wrap x∧IntKind.i64.wrap x≤9223372036854775807:=by
 simp only[IntKind.wrap,IntKind.bits,IntKind.signed]
 simp
 omega
theorem zhJ{w:Nat}{v:bM}(hw:w<2^64)(h:dS w=some v):v.Ok:=by
 unfold dS at h
 have lf:=zhI w
 split at h
 ·cases h
  exact .inr (.inl ⟨rfl,by dsimp only;omega,by dsimp only;omega⟩)
 ·split at h
  ·cases h
   exact .inr (.inr ⟨rfl,by dsimp only;omega,by dsimp only;omega⟩)
  ·split at h
   ·cases h;exact .inl ⟨rfl,rfl⟩
   ·cases h
theorem Rx{all:List Int}{w:Nat}(hw:w<2^64)(h:uO all w)(hl:all.length≤1000000):mq all.length (ey all w):=by
 obtain⟨v,hd,hv⟩:=h
 have h1:=zhJ hw hd
 unfold ey
 rw[hd,wbr]
 by_cases hk:v.kind=2
 ·rw[wF hk]
  have h2:=wb6 (hv hk)
  exact⟨.inr (.inr ⟨rfl,by dsimp only;omega,by dsimp only;omega⟩),fun _=>by dsimp only;omega⟩
 ·rw[wI hk]
  exact⟨h1,fun q=>absurd q hk⟩
theorem J2{ws:List Nat}{p:Int}(h:cF ws p=0):(qd ws p).length=(aT ws p).fields.toNat∧(ry ws p).length=(aT ws p).bO.toNat:=by
 obtain⟨h1,h2,h3,h4,_⟩:=kE h
 have h5:=jO h3
 have hs:cu (aT ws p)=1+(aT ws p).fields+(aT ws p).bO:=by unfold cu;rw[wF h3]
 unfold qd ry
 rw[wU,wbe,wU,wbe]
 omega
theorem J3{ws:List Nat}{p:Int}(h:cF ws p=0){k:Nat}(hk:k<(aT ws p).fields.toNat):(qd ws p)[k]? =some (cY ws (p+1+k)):=by
 obtain⟨h1,h2,h3,h4,_⟩:=kE h
 have h5:=jO h3
 have hs:cu (aT ws p)=1+(aT ws p).fields+(aT ws p).bO:=by unfold cu;rw[wF h3]
 unfold qd cY
 rw[wab,wF hk,wae,wav,show(p+1+(k:Int)).toNat=p.toNat+1+k by omega,wj (by omega)]
 rfl
theorem xg(s:St):(da s).1.length≤s.words.length:=by
 unfold da
 by_cases h:bw (s.cfg.dI s.second)∧(s.cfg.dI s.second).ae≤s.top∧s.top≤(s.cfg.dI s.second).stop
 ·rw[Ju _ _ _ h]
  split
  ·have:=HV (ws:=s.words) (top:=s.top) (s.top-(s.cfg.dI s.second).ae).toNat (s.cfg.dI s.second).ae h.1.1
   exact wK this (Nat.sub_le _ _)
  ·exact wJ _
 ·rw[EJ _ _ _ h];exact wJ _
theorem Ry{s:St}(hw:s.words.length≤98304)(ht:s.table.length≤1000):(aU s).length≤1000000:=by
 have:=xg s
 unfold aU
 rw[wN,wO]
 omega
theorem zbS{s:St}(h:Rt s)(hu:∀ x∈s.words,x<2^64)(hs:∀ x∈s.bj,x.word<2^64)(hl:(aU s).length≤1000000):gP (bU s):=by
 have hn:(bU s).nodes.length=(aU s).length:=wO ..
 have vt:∀ i,cY s.words i<2^64:=fun i=>by
  unfold cY
  rw[wav]
  cases hc:s.words[i.toNat]? with
  |none=>simp
  |some w=>exact hu w (wag hc)
 refine⟨fun x hx=>?_,fun v hv=>?_⟩
 ·obtain⟨p,hp,rfl⟩:=wbG.1 hx
  have ho:=h.obj p hp
  obtain⟨h1,h2,h3,h4,_⟩:=kE ho
  have h5:=jO h3
  obtain⟨l1,l2⟩:=J2 ho
  refine⟨h5.1,h5.2.1,?_,?_,fun v hv=>?_⟩
  ·show((qd s.words p).map _).length≤4096
   rw[wO,l1];omega
  ·show(ry s.words p).length≤4096
   rw[l2];omega
  ·obtain⟨w,hw,rfl⟩:=wbG.1 hv
   obtain⟨k,hk,rfl⟩:=wbL.1 hw
   have gZ:k<(aT s.words p).fields.toNat:=by rw[←l1];exact hk
   have e:=J3 ho gZ
   rw[wj hk,wi]at e
   rw[hn,e]
   exact Rx (vt _) (h.vJ p hp k (by omega)) hl
 ·obtain⟨x,hx,rfl⟩:=wbG.1 hv
  obtain⟨Hz,tY⟩:=List.mem_filter.1 hx
  rw[hn]
  exact Rx (hs x Hz) (h.slot x Hz tY) hl
theorem zhm{ws:List Nat}{i:Int}(h:cF ws i=0):js (cY ws i)=true:=by
 have hp:=Oy h
 unfold cF at h
 rw[wF hp]at h
 split at h
 ·assumption
 ·omega
theorem zhn(H:Heap)(aj:H.lo≤H.next){s:St}{w t f zl:Value}(hS:iQ H s w t f zl)(hu:∀ x∈s.words,x<2^64)(i:Int)(hi:cF s.words i=0):af E (aC 63) [df s w t f zl,.int .i64 i] H fun r H'=>r= .tuple #[bK (aT s.words i),.int .i64 0]∧aq H H':=by
 obtain⟨h1,h2,h3,h4,h5⟩:=kE hi
 have h6:=zhm hi
 have bh:=yy (h:=aT s.words i)
 obtain⟨⟨wa,wc,rfl,⟨_,Ep⟩,fG⟩,_⟩:=hS.w
 obtain⟨⟨ta,tc,rfl,_⟩,_⟩:=hS.t
 obtain⟨⟨fa,fc,rfl,_⟩,_⟩:=hS.f
 obtain⟨⟨za,zc,rfl,_⟩,_⟩:=hS.sl
 clear hS
 have hq:i.toNat<s.words.length:=by omega
 obtain⟨r,o,cells,g,tt,part,rfl,hr,aG,a8,rfl⟩:=fG i.toNat s.words[i.toNat] (by simp[hq])
 have qw:=pQ a8
 have xx:s.words[i.toNat]=cY s.words i:=by
  unfold cY
  rw[wav,wj hq]
  rfl
 have kJ:cY s.words i<2^64:=by rw[←xx];exact hu _ (wam hq)
 have c1:=fun(X:Heap) (hx:X.lo≤X.next)=>Hs X hx (cY s.words i) kJ
 rw[h6,wF rfl,wF rfl,←h5]at c1
 have c2:=fun(X:Heap) (hx:X.lo≤X.next)=>qO X hx (aT s.words i)
 rw[xx]at qw
 simp only[wV]at qw
 have ha:at? i s.words.length=some i.toNat:=by
  rw[show i=((i.toNat:Nat):Int) by omega]
  exact bI hq
 unfold bK at c1 c2⊢
 clear a8 fG h3 h5 h6 hi xx
 refine aQ Tryz.f63 ?_
 simp only[Tryz.f63]
 unfold df
 repeat'(first|(apply ao<;>intro)|apply bQ|refine az 6 [Fx,Tx,Fx,Fx,Fx,Fx,Fx,Fx,Fx] ?_|((with_reducible show af _ _ _ _ _);(first|refine ak H (c1 _ ah) ?_|refine ak H (c2 _ ah) ?_);intro H2 k2 l2 n2 g2 q2;try simp(disch:=omega)only[sm,sl]at l2 n2 g2 q2)|simp(disch:=omega)only[↓aa,ab,simprocAttr,sa, *])
 all_goals exact cf
def OE(b z:Nat)(H:Heap)(v:Value)(n:Nat)(cs:List Value):Prop:=(∃go,OS b z H v n cs go)∨(n=0∧cs=[]∧∃ q,v= .slice (some ⟨q,0,none⟩) 0 0∧b≤q∧q<H.next∧H.objs.get q=some (.row [] none true))
theorem OS.dx{b z n:Nat}{H:Heap}{cs:List Value}(hb:b≤H.next)(hn:n≤1000000000)(hl:cs.length=n*z):OS b z (H.dx z cs) (.slice (some ⟨H.next,0,none⟩) n n) n cs (some H.next):=
 ⟨H.next,n,cs,[],rfl,⟨wy _,hn⟩,hl,by rw[wZ (by omega)],by rw[iM,cB rfl];rfl,by rw[jN,cB rfl];rfl,hb,by rw[fW];omega,hb,by rw[fW];omega,fun x hx=>(by cases hx),by simp⟩
theorem zho{H:Heap}{cs:List Value}{l:List Int}(h:dD (dd .i64) 1 H cs l):cs=l.map db:=by
 refine waR fun i=>?_
 rw[war]
 by_cases hi:i<l.length
 ·obtain⟨part,h1,h2⟩:=h.2 i l[i] (by simp[hi])
  rw[h2,waY]at h1
  rw[Om h1,wj hi];rfl
 ·have:=h.1
  rw[wak (by omega),wak (by omega)];rfl
theorem Q6(d:Nat)(a:Addr)(n c n' c':Nat):eqV E (d+1) 45 (.slice (some a) n c) (.slice none n' c')=some false:=kq
theorem zhp(H:Heap)(aj:H.lo≤H.next)(v:Value)(l:List Int)(hv:aZ (dd .i64) 1 H v l)(hl:l.length≤100000):af E (aC 103) [v] H fun r H'=>OE H.next 1 H' r l.length (l.map db)∧aq H H':=by
 obtain⟨hs,hr⟩:=hv
 have sN:aq H (H.newRow []):=fx _
 obtain⟨a,c,cs,rfl,oO,sf⟩:=(hs.mono (dd.mono _) sN).Av (hr.same sN)
 have qP:(H.newRow []).objs.get H.next=some (.row [] none true):=by simp(disch:=omega)only[aA,aM,aB,aJ,aH,aI,aN,aO,aR,aP,aL,aE,aK,au,sl]
 rw[waY]at oO
 have ib:=zho sf
 subst ib
 refine aQ Tryz.f103 ?_
 simp only[Tryz.f103]
 cases a with
 |none=>
  have e0:l=[]:=by
   cases l with
   |nil=>rfl
   |cons x l=>
    obtain⟨a',c',e,_,h⟩:=hs
    simp only[waq]at e
    obtain⟨r,o,_,_,_,_,h0,_⟩:=h 0 x rfl
    rw[h0]at e
    cases e.1
  subst e0
  simp(disch:=omega)only[↓aa,ab,simprocAttr,sa,wcy, *]
  exact⟨.inl ⟨none,OS.nil _ _ _⟩,aF⟩
 |some a=>
  by_cases a9:l.length=0
  ·have e0:l=[]:=wac a9
   subst e0
   simp only[waA]at oO
   have di:=HS (z:=1) (b:=8) (H:=H.newRow []) ⟨H.next,0,none⟩ 0 rfl (([]:List Int).map db)
   simp(disch:=omega)only[↓aa,ab,simprocAttr,sa,Q6,cC,eF,waA, *]
   exact .inr ⟨rfl,rfl,H.next,rfl,wy _,by simp(disch:=omega)only[aA,aM,aB,aJ,aH,aI,aN,aO,aR,aP,aL,aE,aK,au,sl];omega,qP⟩
  ·have di:=yz (z:=1) (b:=8) (k:=l.length) (new:=l.map db) qP a9 (by simp[ed,lM,cC];omega)
   simp(disch:=omega)only[↓aa,ab,simprocAttr,sa,Q6,cC,eF, *]
   have g:=vM (b:=H.next) (H:=H.newRow []) (by simp(disch:=omega)only[aA,aM,aB,aJ,aH,aI,aN,aO,aR,aP,aL,aE,aK,au,sl];omega) 1 (l.map db)
   have hO:=OS.dx (b:=H.next) (z:=1) (n:=l.length) (H:=H.newRow []) (cs:=l.map db) (by simp(disch:=omega)only[aA,aM,aB,aJ,aH,aI,aN,aO,aR,aP,aL,aE,aK,au,sl];omega) (by omega) (by rw[wO,waY])
   simp(disch:=omega)only[sm,sl]at hO
   exact⟨.inl ⟨_,hO⟩,g.same sN (wy _)⟩
structure xz(g:Gr)(l:List Nat)(k:Nat):Prop where
 nodup:l.Nodup
 lt:∀ i∈l,i<g.nodes.length
 le:k≤l.length
 to:∀ o,BK g l k o→Order g o
theorem xz.first{g:Gr}(hg:v8 g):xz g (jg [] g.roots) 0:=
 ⟨ER _ _ wbv,Rq hg.roots fun x hx=>(by cases hx),wJ _,fun _ h=>h⟩
theorem zhK(l:List Nat)(vs:List bM):l.length≤(jg l vs).length:=(JQ vs l).length_le
theorem xz.next{g:Gr}(hg:v8 g){l:List Nat}{k i:Nat}(h:xz g l k)(hk:l[k]? =some i):xz g (jg l (dg g i)) (k+1):=
 ⟨ER _ _ h.nodup,Rq (hg.dg _) h.lt,wK (wD.1 hk).1 (zhK _ _),fun o ho=>h.to o (.step hk ho)⟩
theorem xz.last{g:Gr}{l:List Nat}{k:Nat}(h:xz g l k)(hk:¬ k<l.length):Order g l:=h.to l (.done hk)
inductive uB(g:Gr):Nat→Prop
 |root {v:bM} (h:v∈g.roots) (k:v.kind=2):uB g v.x.toNat
 |field {i:Nat} {v:bM} (h:uB g i) (hv:v∈dg g i) (k:v.kind=2):uB g v.x.toNat
structure gM(g:Gr)(l:List Nat):Prop where
 nodup:l.Nodup
 lt:∀ i∈l,i<g.nodes.length
 iff:∀ i,i∈l↔uB g i
theorem gM.perm{g:Gr}{l m:List Nat}(h:gM g l)(h':gM g m):l.Perm m:=
 (List.perm_ext_iff_of_nodup h.nodup h'.nodup).2 fun i=>(h.iff i).trans (h'.iff i).symm
theorem gM.zbd{g:Gr}{l m:List Nat}(h:gM g l)(p:l.Perm m):gM g m:=
 ⟨p.nodup_iff.1 h.nodup,fun i hi=>h.lt i (p.mem_iff.2 hi),fun i=>p.mem_iff.symm.trans (h.iff i)⟩
theorem gM.len{g:Gr}{l:List Nat}(h:gM g l):l.length≤g.nodes.length:=AY _ l h.nodup h.lt
structure Dn(g:Gr)(l:List Nat)(eQ:List bM):Prop where
 nodup:l.Nodup
 lt:∀ i∈l,i<g.nodes.length
 AZ:∀ i∈l,uB g i
 pl:∀ v∈eQ,v.kind=2→uB g v.x.toNat
 root:∀ v∈g.roots,v.kind=2→v.x.toNat∈l∨v∈eQ
 cl:∀ i∈l,∀v∈dg g i,v.kind=2→v.x.toNat∈l∨v∈eQ
theorem Dn.first(g:Gr):Dn g [] g.roots:=
 ⟨wbv,fun i hi=>(by cases hi),fun i hi=>(by cases hi),fun v hv k=> .root hv k,fun v hv _=> .inr hv,fun i hi=>(by cases hi)⟩
theorem Dn.done{g:Gr}{l:List Nat}(h:Dn g l []):gM g l:=by
 refine⟨h.nodup,h.lt,fun i=>⟨h.AZ i,fun hi=>?_⟩⟩
 induction hi with
 |root hv k=>exact(h.root _ hv k).elim id fun q=>(by cases q)
 |field _ hv k ih=>exact(h.cl _ ih _ hv k).elim id fun q=>(by cases q)
theorem Dn.mem{g:Gr}{l:List Nat}{p q:List bM}(h:Dn g l p)(e:∀ v,v∈p↔v∈q):Dn g l q:=
 ⟨h.nodup,h.lt,h.AZ,fun v hv=>h.pl v ((e v).2 hv),fun v hv k=>(h.root v hv k).imp id (e v).1,fun i hi v hv k=>(h.cl i hi v hv k).imp id (e v).1⟩
theorem Dn.perm{g:Gr}{l m:List Nat}{p:List bM}(h:Dn g l p)(e:l.Perm m):Dn g m p:=
 ⟨e.nodup_iff.1 h.nodup,fun i hi=>h.lt i (e.mem_iff.2 hi),fun i hi=>h.AZ i (e.mem_iff.2 hi),h.pl,fun v hv k=>(h.root v hv k).imp e.mem_iff.1 id,fun i hi v hv k=>(h.cl i (e.mem_iff.2 hi) v hv k).imp e.mem_iff.1 id⟩
theorem Dn.aS{g:Gr}{l:List Nat}{v:bM}{p:List bM}(h:Dn g l (v::p))(hv:¬ (v.kind=2∧v.x.toNat∉l)):Dn g l p:=by
 have key:∀ u:bM,u.kind=2→u.x.toNat∈l∨u∈v::p→u.x.toNat∈l∨u∈p:=fun u k q=>by
  rcases q with q|q
  ·exact .inl q
  ·rcases wad.1 q with rfl|q
   ·exact .inl (wbK fun hh=>hv ⟨k,hh⟩)
   ·exact .inr q
 exact⟨h.nodup,h.lt,h.AZ,fun u hu=>h.pl u (wM _ hu),fun u hu k=>key u k (h.root u hu k),fun i hi u hu k=>key u k (h.cl i hi u hu k)⟩
theorem uB.lt{g:Gr}(hg:v8 g){i:Nat}(h:uB g i):i<g.nodes.length:=by
 cases h with
 |root h k=>exact(hg.roots _ h k).2
 |field _ hv k=>exact(hg.dg _ _ hv k).2
theorem zbe{l:List Nat}{i:Nat}(h:l.Nodup)(hi:i∉l):(l++[i]).Nodup:=
 List.nodup_append.2 ⟨h,List.nodup_cons.2 ⟨wbb,wbv⟩,fun a ha b hb e=>by
  rw[waG]at hb
  exact hi (by rw[←hb,←e];exact ha)⟩
theorem Dn.new{g:Gr}{l:List Nat}{v:bM}{p:List bM}(hg:v8 g)(h:Dn g l (v::p))(hk:v.kind=2)(hv:v.x.toNat∉l):Dn g (l++[v.x.toNat]) (dg g v.x.toNat++p):=by
 have hl:=h.pl v (wW ..) hk
 have key:∀ u:bM,u.x.toNat∈l∨u∈v::p→u.x.toNat∈l++[v.x.toNat]∨u∈dg g v.x.toNat++p:=fun u q=>by
  rcases q with q|q
  ·exact .inl (List.mem_append_left _ q)
  ·rcases wad.1 q with rfl|q
   ·exact .inl (by simp)
   ·exact .inr (List.mem_append_right _ q)
 refine⟨zbe h.nodup hv,fun i hi=>?_,fun i hi=>?_,fun u hu k=>?_,fun u hu k=>key u (h.root u hu k),fun i hi u hu k=>?_⟩
 ·rcases waI.1 hi with hi|hi
  ·exact h.lt i hi
  ·rw[waG.1 hi];exact hl.lt hg
 ·rcases waI.1 hi with hi|hi
  ·exact h.AZ i hi
  ·rw[waG.1 hi];exact hl
 ·rcases waI.1 hu with hu|hu
  ·exact .field hl hu k
  ·exact h.pl u (wM _ hu) k
 ·rcases waI.1 hi with hi|hi
  ·exact key u (h.cl i hi u hu k)
  ·rw[waG.1 hi]at hu
   exact .inr (List.mem_append_left _ hu)
def gO(g:Gr)(i:Nat):Nat:=match g.nodes[i]? with
 |some n=>1+n.fields.length+n.bO.length
 |none=>0
def cZ(f:Nat→Nat):List Nat→Nat
 |[]=>0
 |x::l=>f x+cZ f l
theorem A9(f:Nat→Nat):∀ l m:List Nat,cZ f (l++m)=cZ f l+cZ f m
 |[],m=>by simp[cZ]
 |x::l,m=>by simp only[wat,cZ,A9 f l m];omega
theorem HW(f:Nat→Nat){l m:List Nat}(h:l.Perm m):cZ f l=cZ f m:=by
 induction h with
 |nil=>rfl
 |cons _ _ ih=>simp only[cZ,ih]
 |swap=>simp only[cZ];omega
 |trans _ _ h1 h2=>exact h1.trans h2
theorem pI{f:Nat→Nat}{c:Nat}(h:∀ i,f i≤c):∀ l,cZ f l≤l.length*c
 |[]=>by simp[cZ]
 |x::l=>by
  have:=h x
  have:=pI h l
  simp only[cZ,wY,waW]
  omega
theorem HX{g:Gr}(h:gP g)(i:Nat):gO g i≤8193:=by
 unfold gO
 split
 ·rename_i n hn
  have:=h.node n (wag hn)
  omega
 ·omega
theorem HY{g:Gr}{i:Nat}{n:Gn}(h:g.nodes[i]? =some n):gO g i=1+n.fields.length+n.bO.length:=by unfold gO;rw[h]
theorem yF{g:Gr}(h:gP g)(i:Nat):(dg g i).length≤4096:=by
 unfold dg
 split
 ·rename_i n hn
  exact(h.node n (wag hn)).2.2.1
 ·simp
set_option maxHeartbeats 10000000
theorem Jf(H:Heap)(aj:H.lo≤H.next)(u:Bool)(gn w:Int):af E (aC 131) [.agg #[.bool u,.int .i64 gn,.int .u64 w]] H fun r H'=>r= .bool (oQ gn)∧aq H H':=by
 refine aQ Tryz.f131 ?_
 simp only[Tryz.f131]
 repeat'(first|(apply ao<;>intro)|simp(disch:=omega)only[↓aa,ab,simprocAttr,sa, *])
 all_goals(first|(with_reducible exact aF)|((with_reducible show _∧_);exact⟨by first|rfl|(simp[oQ, *]<;>omega),aF⟩))
theorem yZ(H:Heap)(aj:H.lo≤H.next)(h:Hd):af E (aC 88) [bK h] H fun r H'=>r= .bool (qS h)∧aq H H':=by
 refine aQ Tryz.f88 ?_
 simp only[Tryz.f88]
 unfold bK
 cases hm:h.mark
 all_goals(repeat' simp(disch:=omega)only[↓aa,ab,simprocAttr,sa, *])
 all_goals(first|(with_reducible exact aF)|((with_reducible show _∧_);exact⟨by first|rfl|(simp[qS, *]<;>omega),aF⟩))
theorem zgG(H:Heap)(aj:H.lo≤H.next)(v:Value)(ks:List Int)(hv:aZ (dd .i64) 1 H v ks)(w:Nat)(hw:w<2^64):af E (aC 94) [v,.int .u64 w] H fun r H'=>r= .bool (fz ks w)∧aq H H':=by
 refine aQ Tryz.f94 ?_
 simp only[Tryz.f94]
 cases hd:dS w with
 |none=>
  have e:fz ks w=false:=by unfold fz;rw[hd]
  repeat'(first|((with_reducible show af _ _ _ _ _);refine ak H (uL _ ah w hw) ?_;intro H2 k2 l2 n2 g2 q2;try simp(disch:=omega)only[sm,sl]at l2 n2 g2 q2)|simp(disch:=omega)only[↓aa,ab,simprocAttr,sa,cX,Option.getD_none,Option.isSome_none, *])
  all_goals first
   |exact xW
   |contradiction
 |some x=>
  by_cases hk:x.kind=2
  ·have e:fz ks w=decide (x.x∈ks):=by unfold fz;rw[hd];exact wF hk
   repeat'(first|((with_reducible show af _ _ _ _ _);(first|refine ak H (uL _ ah w hw) ?_|refine ak H (zgH _ ah v ks (aZ.ko (dd.mono _) hv aw) x.x) ?_);intro H2 k2 l2 n2 g2 q2;try simp(disch:=omega)only[sm,sl]at l2 n2 g2 q2)|simp(disch:=omega)only[↓aa,ab,simprocAttr,sa,cX,wbr,wb1, *])
   all_goals first
    |exact xW
    |contradiction
  ·have e:fz ks w=true:=by unfold fz;rw[hd];exact wI hk
   repeat'(first|((with_reducible show af _ _ _ _ _);refine ak H (uL _ ah w hw) ?_;intro H2 k2 l2 n2 g2 q2;try simp(disch:=omega)only[sm,sl]at l2 n2 g2 q2)|simp(disch:=omega)only[↓aa,ab,simprocAttr,sa,cX,wbr,wb1, *])
   all_goals first
    |exact xW
    |contradiction
set_option maxHeartbeats 4000000
theorem zgI(H:Heap)(aj:H.lo≤H.next){s:St}{w t f zl:Value}(hS:iQ H s w t f zl)(hu:∀ x∈s.words,x<2^64)(hl:s.words.length≤98304)(ht:s.table.length≤300):af E (aC 91) [df s w t f zl] H fun r H'=>r= .bool (ig s)∧aq H H':=by
 have qE:=hS.t
 have cQ:=hS.f
 have lG:=hS.w
 obtain⟨⟨wa,wc,rfl,_⟩,_⟩:=hS.w
 obtain⟨⟨fa,fc,rfl,_⟩,_⟩:=hS.f
 obtain⟨⟨jS,sc,rfl,_⟩,_⟩:=hS.sl
 have HL:=qE
 obtain⟨⟨ta,tc,rfl,⟨_,jP⟩,bJ⟩, -⟩:=HL
 clear hS
 refine aQ Tryz.f91 ?_
 simp only[Tryz.f91]
 unfold df
 cases hR:jQ s.cfg.jr s.table s.free with
 |false=>
  have hn:ig s=false:=by unfold ig;rw[hR];rfl
  repeat'(first|refine az 1 [Fx,Fx,Tx,Fx,Fx,Fx,Fx,Fx,Fx] ?_|((with_reducible show af _ _ _ _ _);(first|refine ak H (QL _ ah s.cfg) ?_|refine ak H (QQ _ ah s.cfg.jr _ _ s.table s.free (qE.ko bD.mono aw) (cQ.ko bD.mono aw) ht) ?_);intro H2 k2 l2 n2 g2 q2;try simp(disch:=omega)only[sm,sl]at l2 n2 g2 q2)|simp(disch:=omega)only[↓aa,ab,simprocAttr,sa,cD, *])
  all_goals try omega
  all_goals exact cf
 |true=>
  have uy:fI s.cfg.jr none s.table=true:=by unfold jQ at hR;rw[wA]at hR;exact hR.1
  obtain⟨cn, -, -⟩:=uv uy
  repeat'(first|refine az 1 [Fx,Fx,Tx,Fx,Fx,Fx,Fx,Fx,Fx] ?_|((with_reducible show af _ _ _ _ _);(first|refine ak H (QL _ ah s.cfg) ?_|refine ak H (QQ _ ah s.cfg.jr _ _ s.table s.free (qE.ko bD.mono aw) (cQ.ko bD.mono aw) ht) ?_);intro H2 k2 l2 n2 g2 q2;try simp(disch:=omega)only[sm,sl]at l2 n2 g2 q2)|simp(disch:=omega)only[↓aa,ab,simprocAttr,sa,cD, *])
  all_goals try omega
  refine bC H [1,3] (fun T1 H1 u1 k1 n1 l1 g1=>?_) aw
  try simp(disch:=omega)only[sm,sl]at n1 l1 g1
  simp only[sq,simprocAttr]at u1
  refine bt kq (fun nn T X=>∃ i:Nat,nn=s.table.length-i∧(T.get 3=some (.int .i64 i))∧(T.get 1=T1.get 1)∧Ko H1 X∧X.lo=H1.lo∧(i≤s.table.length∧s.table.all (fB s)=(s.table.drop i).all (fB s))) ?_ ?_
  ·refine⟨_,0,rfl,?_,?_,Ko.refl _,rfl,⟨wJ _,rfl⟩⟩<;>exact ay
  rintro nn fk X1 ⟨i,rfl,m1,w1,bu,iz,⟨hi,hE⟩⟩ Qs hQ aD ai
  have cw:=k1.trans bu;have fp:=bu.ag;have fX:=bu.objs
  have hT:ig s=s.table.all (fB s):=by unfold ig;rw[hR];rfl
  by_cases hlt:i<s.table.length
  ·obtain⟨r,o,cells,gg,tt,part,rfl,hr,iL,a8,rfl⟩:=bJ i s.table[i] (by simp)
   have e1:=cw.objs r hr
   have a1:=bI hlt
   have hx:=(cn s.table[i] (by simp)).1
   unfold bw at hx
   have jU: -9223372036854775808≤s.table[i].ae∧s.table[i].ae≤9223372036854775807:=by omega
   rw[wX hlt,wbu]at hE
   obtain⟨c1,c2⟩:=qI a8
   have zir:aZ RW 1 H1 (.slice wa s.words.length wc) s.words:=aZ.ko RW.mono lG k1
   generalize s.table[i]=x at a8 hE jU c1 c2
   cases hh:decide (cF s.words x.ae=0)with
   |false=>
    have hn:ig s=false:=by rw[hT,hE,fB,hh];rfl
    clear hE hT
    repeat'(first|(apply ao<;>intro)|refine az 6 [Fx,Fx,Fx,Fx,Fx,Fx,Fx,Fx,Fx,Fx,Fx,Fx,Fx,Fx,Fx] ?_|refine az 7 [Fx,Fx,Fx,Fx,Tx,Fx,Fx,Fx,Fx,Fx,Fx,Fx,Fx,Fx,Fx,Fx,Fx,Fx,Fx,Fx,Fx,Fx,Fx,Fx,Fx,Fx,Fx,Fx,Fx] ?_|((with_reducible show af _ _ _ _ _);refine ak H1 (rn _ ah _ s.words (aZ.ko RW.mono lG aw) hu x.ae jU (by omega)) ?_;intro H2 k2 l2 n2 g2 q2;try simp(disch:=omega)only[sm,sl]at l2 n2 g2 q2)|((with_reducible show Qs _ _ _ _ _);first|refine ai _ _ _ _ ?_|refine aD _ _ _ ?_)|simp(disch:=omega)only[↓aa,ab,simprocAttr,sa,bK, *])
    all_goals try omega
    all_goals exact cf
   |true=>
    cases bh:decide (cu (aT s.words x.ae)=x.size)with
    |false=>
     have hn:ig s=false:=by rw[hT,hE,fB,hh,bh];rfl
     clear hE hT
     repeat'(first|(apply ao<;>intro)|refine az 6 [Fx,Fx,Fx,Fx,Fx,Fx,Fx,Fx,Fx,Fx,Fx,Fx,Fx,Fx,Fx] ?_|refine az 7 [Fx,Fx,Fx,Fx,Tx,Fx,Fx,Fx,Fx,Fx,Fx,Fx,Fx,Fx,Fx,Fx,Fx,Fx,Fx,Fx,Fx,Fx,Fx,Fx,Fx,Fx,Fx,Fx,Fx] ?_|((with_reducible show af _ _ _ _ _);(first|refine ak H1 (rn _ ah _ s.words (aZ.ko RW.mono lG aw) hu x.ae jU (by omega)) ?_|refine ak H1 (rp _ ah (aT s.words x.ae)) ?_);intro H2 k2 l2 n2 g2 q2;try simp(disch:=omega)only[sm,sl]at l2 n2 g2 q2)|((with_reducible show Qs _ _ _ _ _);first|refine ai _ _ _ _ ?_|refine aD _ _ _ ?_)|simp(disch:=omega)only[↓aa,ab,simprocAttr,sa,bK, *])
     all_goals try omega
     all_goals exact cf
    |true=>
     cases hq:qS (aT s.words x.ae)with
     |false=>
      have hn:ig s=false:=by rw[hT,hE,fB,hh,bh,hq];rfl
      clear hE hT
      repeat'(first|(apply ao<;>intro)|refine az 6 [Fx,Fx,Fx,Fx,Fx,Fx,Fx,Fx,Fx,Fx,Fx,Fx,Fx,Fx,Fx] ?_|refine az 7 [Fx,Fx,Fx,Fx,Tx,Fx,Fx,Fx,Fx,Fx,Fx,Fx,Fx,Fx,Fx,Fx,Fx,Fx,Fx,Fx,Fx,Fx,Fx,Fx,Fx,Fx,Fx,Fx,Fx] ?_|((with_reducible show af _ _ _ _ _);(first|refine ak H1 (rn _ ah _ s.words (aZ.ko RW.mono lG aw) hu x.ae jU (by omega)) ?_|refine ak H1 (rp _ ah (aT s.words x.ae)) ?_|refine ak H1 (yZ _ ah (aT s.words x.ae)) ?_);intro H2 k2 l2 n2 g2 q2;try simp(disch:=omega)only[sm,sl]at l2 n2 g2 q2)|((with_reducible show Qs _ _ _ _ _);first|refine ai _ _ _ _ ?_|refine aD _ _ _ ?_)|simp(disch:=omega)only[↓aa,ab,simprocAttr,sa,bK, *])
      all_goals try omega
      all_goals exact cf
     |true=>
      cases gx:decide (s.cfg.Small x.size)with
      |true=>
       have hn:ig s=false:=by rw[hT,hE,fB,hh,bh,hq,gx];rfl
       clear hE hT
       repeat'(first|(apply ao<;>intro)|refine az 6 [Fx,Fx,Fx,Fx,Fx,Fx,Fx,Fx,Fx,Fx,Fx,Fx,Fx,Fx,Fx] ?_|refine az 7 [Fx,Fx,Fx,Fx,Tx,Fx,Fx,Fx,Fx,Fx,Fx,Fx,Fx,Fx,Fx,Fx,Fx,Fx,Fx,Fx,Fx,Fx,Fx,Fx,Fx,Fx,Fx,Fx,Fx] ?_|((with_reducible show af _ _ _ _ _);(first|refine ak H1 (rn _ ah _ s.words (aZ.ko RW.mono lG aw) hu x.ae jU (by omega)) ?_|refine ak H1 (rp _ ah (aT s.words x.ae)) ?_|refine ak H1 (yZ _ ah (aT s.words x.ae)) ?_|refine ak H1 (Ez _ ah s.cfg x.size) ?_);intro H2 k2 l2 n2 g2 q2;try simp(disch:=omega)only[sm,sl]at l2 n2 g2 q2)|((with_reducible show Qs _ _ _ _ _);first|refine ai _ _ _ _ ?_|refine aD _ _ _ ?_)|simp(disch:=omega)only[↓aa,ab,simprocAttr,sa,bK,cD, *])
       all_goals try omega
       all_goals exact cf
      |false=>
       have hn:s.table.all (fB s)=(s.table.drop (i+1)).all (fB s):=by rw[hE,fB,hh,bh,hq,gx];rfl
       clear hE hT
       repeat'(first|(apply ao<;>intro)|refine az 6 [Fx,Fx,Fx,Fx,Fx,Fx,Fx,Fx,Fx,Fx,Fx,Fx,Fx,Fx,Fx] ?_|refine az 7 [Fx,Fx,Fx,Fx,Tx,Fx,Fx,Fx,Fx,Fx,Fx,Fx,Fx,Fx,Fx,Fx,Fx,Fx,Fx,Fx,Fx,Fx,Fx,Fx,Fx,Fx,Fx,Fx,Fx] ?_|((with_reducible show af _ _ _ _ _);(first|refine ak H1 (rn _ ah _ s.words (aZ.ko RW.mono lG aw) hu x.ae jU (by omega)) ?_|refine ak H1 (rp _ ah (aT s.words x.ae)) ?_|refine ak H1 (yZ _ ah (aT s.words x.ae)) ?_|refine ak H1 (Ez _ ah s.cfg x.size) ?_);intro H2 k2 l2 n2 g2 q2;try simp(disch:=omega)only[sm,sl]at l2 n2 g2 q2)|((with_reducible show Qs _ _ _ _ _);refine ai _ _ _ _ ?_)|simp(disch:=omega)only[↓aa,ab,simprocAttr,sa,bK,cD, *])
       all_goals try omega
       refine hQ _ _ _ ?_ ⟨i+1,rfl,?_,?_,?_,?_,⟨by omega,hn⟩⟩<;>exact ay
  ·have cP:s.table.all (fB s)=true:=by rw[hE,waO (by omega)];rfl
   rw[cP]at hT
   repeat'(first|(apply ao<;>intro)|refine az 6 [Fx,Fx,Fx,Fx,Fx,Fx,Fx,Fx,Fx,Fx,Fx,Fx,Fx,Fx,Fx] ?_|((with_reducible show Qs _ _ _ _ _);refine ai _ _ _ _ ?_)|simp(disch:=omega)only[↓aa,ab,simprocAttr,sa, *])
   all_goals exact cf
theorem P4(H:Heap)(aj:H.lo≤H.next)(v:Value)(l:List Int)(hv:aZ (dd .i64) 1 H v l)(x:Int):af E (aC 96) [v,.int .i64 x] H fun r H'=>r= .bool (decide (x∈l))∧aq H H':=by
 obtain⟨⟨a,ca,rfl,⟨_,jP⟩,bJ⟩, -⟩:=hv
 refine aQ Tryz.f96 ?_
 simp only[Tryz.f96]
 simp(disch:=omega)only[↓aa,ab,simprocAttr,sa, *]
 refine bC H [0,1,5] (fun T1 H1 u1 k1 n1 l1 g1=>?_) aw
 try simp(disch:=omega)only[sm,sl]at n1 l1 g1
 simp only[sq,simprocAttr]at u1
 refine bt kq (fun nn T X=>∃ i:Nat,nn=l.length-i∧(T.get 5=some (.int .i64 i))∧(T.get 0=T1.get 0∧T.get 1=T1.get 1)∧Ko H1 X∧X.lo=H1.lo∧(i≤l.length∧decide (x∈l)=decide (x∈l.drop i))) ?_ ?_
 ·refine⟨_,0,rfl,?_,?_,Ko.refl _,rfl,⟨wJ _,rfl⟩⟩<;>exact ay
 rintro nn fk X1 ⟨i,rfl,m1,w1,bu,iz,⟨hi,hE⟩⟩ Qs hQ aD ai
 have cw:=k1.trans bu;have fp:=bu.ag;have fX:=bu.objs
 by_cases hlt:i<l.length
 ·obtain⟨r,o,cells,gg,tt,part,rfl,hr,aG,a8,rfl⟩:=bJ i l[i] (by simp)
  have a1:=bI hlt
  have e1:=cw.objs r hr
  have hg:=yT a8
  clear a8
  rw[wX hlt]at hE
  generalize l[i]=y at hE hg
  by_cases hy:y=x
  ·have hT:decide (x∈l)=true:=by rw[hE];exact wz (by rw[hy];exact wW ..)
   clear hE
   repeat'(first|(apply ao<;>intro)|((with_reducible show Qs _ _ _ _ _);first|refine ai _ _ _ _ ?_|refine aD _ _ _ ?_)|simp(disch:=omega)only[↓aa,ab,simprocAttr,sa, *])
   all_goals exact cf
  ·have hN:decide (x∈l)=decide (x∈l.drop (i+1)):=by
    rw[hE]
    congr 1
    rw[wad]
    exact propext ⟨fun h=>h.resolve_left fun e=>hy e.symm,.inr⟩
   clear hE
   repeat'(first|(apply ao<;>intro)|((with_reducible show Qs _ _ _ _ _);refine ai _ _ _ _ ?_)|simp(disch:=omega)only[↓aa,ab,simprocAttr,sa, *])
   all_goals first|(refine hQ _ _ _ ?_ ⟨i+1,rfl,?_,?_,?_,?_,⟨by omega,hN⟩⟩<;>exact ay)|omega
 ·have hF:decide (x∈l)=false:=by rw[hE,waO (by omega)];rfl
  clear hE
  repeat'(first|(apply ao<;>intro)|((with_reducible show Qs _ _ _ _ _);refine ai _ _ _ _ ?_)|simp(disch:=omega)only[↓aa,ab,simprocAttr,sa, *])
  all_goals exact cf
end Go.AM
