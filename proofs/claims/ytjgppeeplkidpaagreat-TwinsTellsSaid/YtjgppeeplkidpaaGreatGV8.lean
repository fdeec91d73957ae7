/-
  Walks over letters of the functions that the law reaches; written small by a program of mine.
-/
import Derived.Test.YtjgppeeplkidpaaGreatGV5
import Derived.Test.YtjgppeeplkidpaaGreatGYG
import Derived.Test.YtjgppeeplkidpaaGreatGC14
import Derived.Test.YtjgppeeplkidpaaGreatGM1
set_option linter.unusedVariables false
set_option linter.unusedSectionVars false
namespace Go.AM
attribute [local instance] fnMaps
open Go Go.Proofs
set_option maxRecDepth 100000
set_option maxHeartbeats 4000000
set_option linter.unusedSimpArgs false
theorem zf6(done:List Span)(x:Span)(l:List Span):iq done (x::l)=(decide (bt x)&&done.all (fun y=> !decide (km x y))&&iq (done++[x]) l):=rfl
theorem PK(H:Heap)(an:H.lo≤H.next)(v:Value)(l:List Span)(hv:SLr bD 2 H v l):af E (aK 187) [v] H fun r H'=>r= .bool (iq [] l)∧aq H H':=by
 obtain⟨⟨a,ca,rfl,⟨_,ft⟩,bs⟩, -⟩:=hv
 refine aV Tryz.f187 ?_
 simp only[Tryz.f187]
 simp(disch:=omega)only[↓aa,ab,simprocAttr,sa, *]
 refine bP H [0,3] (fun T1 H1 u1 k1 n1 l1 g1=>?_) aj
 try simp(disch:=omega)only[sm,sl]at n1 l1 g1
 simp only[sq,simprocAttr]at u1
 refine bL kq (fun nn T X=>∃ i:Nat,nn=l.length-i∧(T.get 3=some (.int .i64 i))∧(T.get 0=T1.get 0)∧Ko H1 X∧X.lo=H1.lo∧(i≤l.length∧iq [] l=iq (l.take i) (l.drop i))) ?_ ?_
 ·refine⟨_,0,rfl,?_,?_,Ko.refl _,rfl,⟨wJ _,rfl⟩⟩<;>exact aJ
 rintro nn dA X1 ⟨i,rfl,m1,w1,kx1,eQ,⟨hi,hE⟩⟩ Qs hQ aG ai
 have bz:=k1.trans kx1;have dZ:=kx1.ag;have ed:=kx1.objs
 by_cases hlt:i<l.length
 ·obtain⟨r,o,cells,gg,tt,part,rfl,hr,aC,aR,rfl⟩:=bs i l[i] (by simp)
  have a1:=bn hlt
  have e1:=bz.objs r hr
  have bM:iq [] l=(decide (bt l[i])&&(l.take i).all (fun y=> !decide (km l[i] y))&&iq (l.take (i+1)) (l.drop (i+1))):=by
   rw[hE,wX hlt,zf6,wR,wj hlt]
   rfl
  clear hE
  generalize l[i]=x at aR bM
  cases hm:decide (bt x)with
  |false=>
   rw[hm,wbj,wbj]at bM
   repeat'(first|(apply ak<;>intro)|((with_reducible show af _ _ _ _ _);refine ao H1 (iu _ ah x) ?_;intro H2 k2 l2 n2 g2 q2;try simp(disch:=omega)only[sm,sl]at l2 n2 g2 q2)|((with_reducible show Qs _ _ _ _ _);first|refine ai _ _ _ _ ?_|refine aG _ _ _ ?_)|simp(disch:=omega)only[↓aa,ab,simprocAttr,sa,bh, *])
   all_goals exact bq
  |true=>
   rw[hm,wa9]at bM
   repeat'(first|(apply ak<;>intro)|((with_reducible show af _ _ _ _ _);refine ao H1 (iu _ ah x) ?_;intro H2 k2 l2 n2 g2 q2;try simp(disch:=omega)only[sm,sl]at l2 n2 g2 q2)|((with_reducible show Qs _ _ _ _ _);refine ai _ _ _ _ ?_)|simp(disch:=omega)only[↓aa,ab,simprocAttr,sa,bh, *])
   all_goals try omega
   have kI:=hQ
   have BQ:=aG
   refine zap H H1 [0,3,4] (fun T3 H3 u3 k3 j3 n3 l3 g3=>?_) aj aj
   try simp(disch:=omega)only[sm,sl]at n3 l3 g3
   simp only[sq,simprocAttr]at u3
   refine bL kq (fun nn T X=>∃ j:Nat,nn=i-j∧(T.get 4=some (.int .i64 j))∧(T.get 0=T3.get 0∧T.get 3=T3.get 3)∧Ko H3 X∧X.lo=H3.lo∧(j≤i∧iq [] l=(((l.take i).drop j).all (fun y=> !decide (km x y))&&iq (l.take (i+1)) (l.drop (i+1))))) ?_ ?_
   ·refine⟨_,0,rfl,?_,?_,Ko.refl _,rfl,⟨wJ _,bM⟩⟩<;>exact aJ
   rintro nn ON X3 ⟨j,rfl,m3,w3,ot,OO,⟨hj,hF⟩⟩ Qs hQ aG ai
   have EE:=k3.trans ot;have EF:=ot.ag;have OQ:=ot.objs
   have e3:=EE.objs r hr
   clear bM
   by_cases jd:j<i
   ·obtain⟨r2,o2,gy,jP,jQ,jR,I3,cq,fZ,cM,rfl⟩:=bs j (l[j]'(by omega)) (wj (by omega))
    cases I3
    rw[aC]at fZ
    cases fZ
    have a2:=bn (show j<l.length by omega)
    have gL:((l.take i).drop j).all (fun y=> !decide (km x y))=(!decide (km x (l[j]'(by omega)))&&((l.take i).drop (j+1)).all (fun y=> !decide (km x y))):=by
     rw[wX (show j<(l.take i).length by rw[wU];omega),wbu,List.getElem_take]
    rw[gL]at hF
    clear gL
    generalize (l[j]'(by omega))=y at cM hF
    cases lf:decide (km x y)with
    |true=>
     rw[lf,wa7,wbj,wbj]at hF
     repeat'(first|(apply ak<;>intro)|refine aw 9 [Fx,Fx,Fx,Fx,Fx,Fx,Fx,Fx,Fx] ?_|((with_reducible show af _ _ _ _ _);refine ao H3 (Pq _ ah x y) ?_;intro H2 k2 l2 n2 g2 q2;try simp(disch:=omega)only[sm,sl]at l2 n2 g2 q2)|((with_reducible show Qs _ _ _ _ _);first|refine ai _ _ _ _ ?_|refine aG _ _ _ ?_)|simp(disch:=omega)only[↓aa,ab,simprocAttr,sa,bh, *])
     all_goals try omega
     refine BQ _ _ _ ?_
     simp(disch:=omega)only[↓aa,ab,simprocAttr,sa,bh, *]
     all_goals exact bq
    |false=>
     rw[lf,wb0,wa9]at hF
     repeat'(first|(apply ak<;>intro)|refine aw 9 [Fx,Fx,Fx,Fx,Fx,Fx,Fx,Fx,Fx] ?_|((with_reducible show af _ _ _ _ _);refine ao H3 (Pq _ ah x y) ?_;intro H2 k2 l2 n2 g2 q2;try simp(disch:=omega)only[sm,sl]at l2 n2 g2 q2)|((with_reducible show Qs _ _ _ _ _);refine ai _ _ _ _ ?_)|simp(disch:=omega)only[↓aa,ab,simprocAttr,sa,bh, *])
     all_goals try omega
     refine hQ _ _ _ ?_ ⟨j+1,rfl,?_,?_,?_,?_,⟨by omega,hF⟩⟩<;>exact aJ
   ·have ej:j=i:=by omega
    have EX:iq [] l=iq (l.take (i+1)) (l.drop (i+1)):=by
     rw[hF,ej,wbs (by rw[wU];omega)]
     rfl
    clear hF
    have dj:decide ((j:Int)<(i:Int))=false:=wx (by omega)
    clear ej
    repeat'(first|((with_reducible show Qs _ _ _ _ _);refine ai _ _ _ _ ?_)|simp(disch:=omega)only[↓aa,ab,simprocAttr,sa,bh, *])
    all_goals try omega
    have hQ:=kI
    have kk:Ko H1 X3:=j3.trans ot
    refine hQ _ _ _ ?_ ⟨i+1,rfl,?_,?_,?_,?_,⟨by omega,EX⟩⟩<;>exact aJ
 ·have hT:iq [] l=true:=by
   rw[hE,wbs (by omega)]
   rfl
  clear hE
  repeat'(first|(apply ak<;>intro)|((with_reducible show Qs _ _ _ _ _);refine ai _ _ _ _ ?_)|simp(disch:=omega)only[↓aa,ab,simprocAttr,sa, *])
  all_goals exact bq
theorem Pv(H:Heap)(an:H.lo≤H.next)(all:Span)(v w:Value)(l free:List Span)(hv:SLr bD 2 H v l)(hw:SLr bD 2 H w free)(hl:l.length≤300):af E (aK 129) [bh all,v,w] H fun r H'=>r= .bool (jK all l free)∧aq H H':=by
 rw[←zbS]
 have ij:=hv
 obtain⟨⟨a,ca,rfl,⟨_,ft⟩,bs⟩, -⟩:=hv
 refine aV Tryz.f129 ?_
 simp only[Tryz.f129]
 simp only[bh]
 simp(disch:=omega)only[↓aa,ab,simprocAttr,sa,bh, *]
 refine bP H [1,2,3,7] (fun T1 H1 u1 k1 n1 l1 g1=>?_) aj
 try simp(disch:=omega)only[sm,sl]at n1 l1 g1
 simp only[sq,simprocAttr]at u1
 refine bL kq (fun nn T X=>∃ i:Nat,nn=l.length-i∧(T.get 7=some (.int .i64 i))∧(T.get 1=T1.get 1∧T.get 2=T1.get 2∧T.get 3=T1.get 3)∧Ko H1 X∧X.lo=H1.lo∧(i≤l.length∧kF all none l=kF all (l.take i).getLast? (l.drop i))) ?_ ?_
 ·refine⟨_,0,rfl,?_,?_,Ko.refl _,rfl,⟨wJ _,rfl⟩⟩<;>exact aJ
 rintro nn dA X1 ⟨i,rfl,m1,w1,kx1,eQ,⟨hi,hE⟩⟩ Qs hQ aG ai
 have bz:=k1.trans kx1;have dZ:=kx1.ag;have ed:=kx1.objs
 by_cases hlt:i<l.length
 ·obtain⟨r,o,cells,gg,tt,part,rfl,hr,aC,aR,rfl⟩:=bs i l[i] (by simp)
  have a1:=bn hlt
  have e1:=bz.objs r hr
  have hb:=bz.objs
  have bM:kF all none l=(decide (lB l[i] all)&&(match(l.take i).getLast? with|none=>true|some y=>decide (y.ae<l[i].ae))&&kF all (some l[i]) (l.drop (i+1))):=by
   rw[hE,wX hlt]
   exact IJ ..
  have jH:(l.take (i+1)).getLast? =some l[i]:=by
   rw[wR,wj hlt,wcx,List.getLast?_append]
   rfl
  have zi:∀ (h0:0<i),(l.take i).getLast? =some (l[i-1]'(by omega)):=fun h0=>by
   rw[List.getLast?_eq_getElem?,wU,waS (by omega),wcj (by omega),wj (by omega)]
  have cM:∀ (h0:0<i),∃y:Span,(l.take i).getLast? =some y∧cells[o+(i-1)*2]? =some (.int .i64 y.ae):=fun h0=>by
   obtain⟨r',o',gy,g2,t2,part,er,cp,ky,ss,rfl⟩:=bs (i-1) (l[i-1]'(by omega)) (wj (by omega))
   cases er
   rw[aC]at ky
   cases ky
   exact⟨_,zi h0,(qJ ss).1⟩
  obtain⟨c1,c2⟩:=qJ aR
  rw[←jH]at bM
  clear hE zi jH hb
  generalize l[i]=x at aR bM c1 c2
  have zi6:=kx1.objs
  cases ou:decide (lB x all)with
  |false=>
   have hR:kF all none l=false:=by rw[bM,ou];rfl
   have hS:ux all l free=false:=by unfold ux;rw[hR];rfl
   clear bM cM
   repeat'(first|(apply ak<;>intro)|refine aw 4 [Fx,Fx,Fx,Fx,Fx,Fx,Fx] ?_|((with_reducible show af _ _ _ _ _);refine ao H1 (EM _ ah x all) ?_;intro H2 k2 l2 n2 g2 q2;try simp(disch:=omega)only[sm,sl]at l2 n2 g2 q2)|((with_reducible show Qs _ _ _ _ _);first|refine ai _ _ _ _ ?_|refine aG _ _ _ ?_)|simp(disch:=omega)only[↓aa,ab,simprocAttr,sa,bh, *])
   all_goals try omega
   all_goals exact bq
  |true=>
   rw[ou,wa9]at bM
   by_cases h0:i=0
   ·subst h0
    have d0:decide ((0:Int)<((0:Nat):Int))=false:=rfl
    have hE3:kF all none l=kF all (l.take (0+1)).getLast? (l.drop (0+1)):=bM
    clear bM cM
    rw[wb2,waX]at aR c1
    repeat'(first|(apply ak<;>intro)|refine aw 4 [Fx,Fx,Fx,Fx,Fx,Fx,Fx] ?_|refine aw 6 [Fx,Fx,Fx,Fx,Fx,Fx,Fx,Fx,Fx,Fx,Fx,Fx,Fx,Fx,Fx,Fx] ?_|((with_reducible show af _ _ _ _ _);refine ao H1 (EM _ ah x all) ?_;intro H2 k2 l2 n2 g2 q2;try simp(disch:=omega)only[sm,sl]at l2 n2 g2 q2)|((with_reducible show Qs _ _ _ _ _);refine ai _ _ _ _ ?_)|simp(disch:=omega)only[↓aa,ab,simprocAttr,sa,bh, *])
    all_goals try omega
    refine hQ _ _ _ ?_ ⟨0+1,rfl,?_,?_,?_,?_,⟨by omega,hE3⟩⟩<;>exact aJ
   ·obtain⟨y,q1,q2⟩:=cM (by omega)
    rw[q1]at bM
    have d0:decide ((0:Int)<(i:Int))=true:=wz (by omega)
    have d1:(i:Int)-1=((i-1:Nat):Int):=by omega
    have a2:=bn (show i-1<l.length by omega)
    clear cM q1
    cases bE:decide (y.ae<x.ae)with
    |true=>
     have I4:=wap bE
     simp only[bE,wa9]at bM
     have d2:decide (x.ae≤y.ae)=false:=wx (by omega)
     clear bE I4
     repeat'(first|(apply ak<;>intro)|refine aw 4 [Fx,Fx,Fx,Fx,Fx,Fx,Fx] ?_|refine aw 6 [Fx,Fx,Fx,Fx,Fx,Fx,Fx,Fx,Fx,Fx,Fx,Fx,Fx,Fx,Fx,Fx] ?_|((with_reducible show af _ _ _ _ _);refine ao H1 (EM _ ah x all) ?_;intro H2 k2 l2 n2 g2 q2;try simp(disch:=omega)only[sm,sl]at l2 n2 g2 q2)|((with_reducible show Qs _ _ _ _ _);refine ai _ _ _ _ ?_)|simp(disch:=omega)only[↓aa,ab,simprocAttr,sa,bh, *])
     all_goals try omega
     refine hQ _ _ _ ?_ ⟨i+1,rfl,?_,?_,?_,?_,⟨by omega,bM⟩⟩<;>exact aJ
    |false=>
     have I4:=wbI bE
     have hR:kF all none l=false:=by rw[bM];simp only[bE,wbj]
     have hS:ux all l free=false:=by unfold ux;rw[hR];rfl
     have d2:decide (x.ae≤y.ae)=true:=wz (by omega)
     clear bE I4 bM
     repeat'(first|(apply ak<;>intro)|refine aw 4 [Fx,Fx,Fx,Fx,Fx,Fx,Fx] ?_|refine aw 6 [Fx,Fx,Fx,Fx,Fx,Fx,Fx,Fx,Fx,Fx,Fx,Fx,Fx,Fx,Fx,Fx] ?_|((with_reducible show af _ _ _ _ _);refine ao H1 (EM _ ah x all) ?_;intro H2 k2 l2 n2 g2 q2;try simp(disch:=omega)only[sm,sl]at l2 n2 g2 q2)|((with_reducible show Qs _ _ _ _ _);first|refine ai _ _ _ _ ?_|refine aG _ _ _ ?_)|simp(disch:=omega)only[↓aa,ab,simprocAttr,sa,bh, *])
     all_goals try omega
     all_goals exact bq
 ·have hR:kF all none l=true:=by
   rw[hE,wbs (by omega)]
   cases(l.take i).getLast?<;>rfl
  have hS:ux all l free=(iq [] l&&decide (pR all l=free)):=by unfold ux;rw[hR,wa9]
  clear hE
  have hvX:=SLr.ko bD.mono ij bz
  have hwX:=SLr.ko bD.mono hw bz
  cases cK:iq [] l with
  |false=>
   rw[cK,wbj]at hS
   repeat'(first|(apply ak<;>intro)|refine aw 4 [Fx,Fx,Fx,Fx,Fx,Fx,Fx] ?_|((with_reducible show af _ _ _ _ _);refine ao H1 (PK _ ah _ l (SLr.ko bD.mono ij aj)) ?_;intro H2 k2 l2 n2 g2 q2;try simp(disch:=omega)only[sm,sl]at l2 n2 g2 q2)|((with_reducible show Qs _ _ _ _ _);refine ai _ _ _ _ ?_)|simp(disch:=omega)only[↓aa,ab,simprocAttr,sa,bh, *])
   all_goals try omega
   all_goals exact bq
  |true=>
   rw[cK,wa9]at hS
   repeat'(first|(apply ak<;>intro)|refine aw 4 [Fx,Fx,Fx,Fx,Fx,Fx,Fx] ?_|((with_reducible show af _ _ _ _ _);refine ao H1 (PK _ ah _ l (SLr.ko bD.mono ij aj)) ?_;intro H2 k2 l2 n2 g2 q2;try simp(disch:=omega)only[sm,sl]at l2 n2 g2 q2)|((with_reducible show Qs _ _ _ _ _);refine ai _ _ _ _ ?_)|simp(disch:=omega)only[↓aa,ab,simprocAttr,sa,bh, *])
   all_goals try omega
   refine af.mono (zf4 H2 (by omega) all _ l (SLr.ko bD.mono ij aj) hl) ?_
   rintro rr Y ⟨hg,sY⟩
   have kY:Ko H Y:=k1.trans (k2.trans sY.ko)
   have xj:=sY.lo
   refine af.mono (IS Y (by have:=sY.ag;omega) _ w _ free hg (SLr.ko bD.mono hw kY)) ?_
   rintro rr Z ⟨rfl,sZ⟩
   have kZ:Ko H Z:=kY.trans sZ.ko
   exact⟨rfl,kZ.same (by have:=sZ.lo;omega)⟩
theorem zf7{ws:List Nat}{top p:Int}(h1:p<top)(h2:ik ws top p=0):dF ws top (top-p).toNat p=⟨p,aU ws p,0,false⟩::dF ws top (top-(p+ct (aU ws p))).toNat (p+ct (aU ws p)):=by
 have hz:=vX (qU h2).1
 obtain⟨n,hn⟩:∃ n,(top-p).toNat=n+1:=⟨(top-p).toNat-1,by omega⟩
 rw[hn,dF,wF h1,wF h2,Iv n (top-(p+ct (aU ws p))).toNat (p+ct (aU ws p)) (by omega) (by omega)]
theorem zf8{ws:List Nat}{top p:Int}(h1:p<top)(h2:ik ws top p≠0):dF ws top (top-p).toNat p=[⟨p,gI,ik ws top p,true⟩]:=by
 obtain⟨n,hn⟩:∃ n,(top-p).toNat=n+1:=⟨(top-p).toNat-1,by omega⟩
 rw[hn,dF,wF h1,wI h2]
theorem zf9{ws:List Nat}{top p:Int}(h1:¬ p<top):dF ws top (top-p).toNat p=[⟨p,gI,0,true⟩]:=by
 rw[show(top-p).toNat=0 by omega,dF]
def iX(ws:List Nat)(top p:Int):List mf:=dF ws top (top-p).toNat p
theorem I5(ws:List Nat)(s:Span)(top:Int)(h:bt s∧s.ae≤top∧top≤s.stop):iJ ws s top=if(kC (iX ws top s.ae)).2=0 then(gu (iX ws top s.ae),0)else([],(kC (iX ws top s.ae)).2):=by
 unfold iJ mg
 rw[wF h]
 rfl
theorem EY(ws:List Nat)(s:Span)(top:Int)(h:¬ (bt s∧s.ae≤top∧top≤s.stop)):iJ ws s top=([],1):=by
 unfold iJ mg
 rw[wI h]
 rfl
theorem zga(ws:List Nat)(top p:Int):iX ws top p≠[]:=fun e=>by
 have:=Iw ws top (top-p).toNat p
 rw[show dF ws top (top-p).toNat p=[]from e]at this
 exact this
theorem zgb{x:mf}{l:List mf}(h:l≠[]):kC (x::l)=kC l:=by
 cases l with
 |nil=>exact absurd rfl h
 |cons y l=>rfl
theorem Pt(H:Heap)(an:H.lo≤H.next)(v:Value)(ws:List Nat)(hv:SLr RW 1 H v ws)(hu:∀ w∈ws,w<2^64)(hl:ws.length≤98304)(s:Span)(top:Int)(nt: -9223372036854775808≤top∧top≤9223372036854775807):af E (aK 87) [v,bh s,.int .i64 top] H fun r H'=>(∃(w:Value) (k:Int),r= .tuple #[w,.int .i64 k,.int .i64 (iJ ws s top).2]∧SLr (RInt .i64) 1 H' w (iJ ws s top).1∧dD H.next 1 H' w (iJ ws s top).1.length ((iJ ws s top).1.map cx))∧aq H H':=by
 refine aV Tryz.f87 ?_
 simp only[Tryz.f87]
 simp only[bh]
 by_cases hm:bt s
 ·have eC:=hm
  unfold bt at eC
  by_cases h1:s.ae≤top∧top≤s.ae+s.size
  ·rw[I5 ws s top ⟨hm,h1⟩]
   repeat'(first|(apply ak<;>intro)|apply bw|((with_reducible show af _ _ _ _ _);refine ao H (iu _ ah s) ?_;intro H2 k2 l2 n2 g2 q2;try simp(disch:=omega)only[sm,sl]at l2 n2 g2 q2)|simp(disch:=omega)only[↓aa,ab,simprocAttr,sa,bh,wz hm, *])
   all_goals try omega
   refine bP H [0,2,9,10] (fun T1 H1 u1 k1 n1 l1 g1=>?_) aj
   try simp(disch:=omega)only[sm,sl]at n1 l1 g1
   simp only[sq,simprocAttr]at u1
   refine bL kq (fun nn T X=>∃ (p:Int) (w:Value) (acc:List Int),nn=(top-p).toNat∧(T.get 9=some (w)∧T.get 10=some (.int .i64 p))∧(T.get 0=T1.get 0∧T.get 2=T1.get 2)∧True∧True∧(0≤p∧s.ae≤p∧p≤top∧(acc.length:Int)≤p-s.ae∧kC (iX ws top s.ae)=kC (iX ws top p)∧gu (iX ws top s.ae)=acc++gu (iX ws top p)∧dD H.next 1 X w acc.length (acc.map cx)∧aq H X)) ?_ ?_
   ·refine⟨_,s.ae,_,.nil,rfl,?_,?_,trivial,trivial,by omega,Int.le_refl _,by omega,by simp,rfl,rfl,⟨rfl,.inl ⟨rfl,rfl⟩⟩,by first|exact k1.same (by omega)⟩<;>exact aJ
   rintro nn dA X1 ⟨p,w,acc,rfl,m1,w1,_,_,nk,uA,qC,mL,hE,hA,hO,hS⟩ Qs hQ aG ai
   have EO:=hS.lo
   have EP:=hS.ag
   by_cases xq:p<top
   ·cases oa:decide (ik ws top p=0)with
    |true=>
     have oR:=wap oa
     have xr:iX ws top p=⟨p,aU ws p,0,false⟩::iX ws top (p+ct (aU ws p)):=zf7 xq oR
     have hz:=vX (qU oR).1
     have ug:=qU oR
     have cf:=kx ug.1
     have bf:=yS (h:=aU ws p)
     have bM:kC (iX ws top s.ae)=kC (iX ws top (p+ct (aU ws p))):=by rw[hE,xr,zgb (zga ws top _)]
     have sQ:gu (iX ws top s.ae)=(acc++[p])++gu (iX ws top (p+ct (aU ws p))):=by
      rw[hA,xr,waP]
      rfl
     clear hE hA xr
     simp(disch:=omega)only[↓aa,ab,simprocAttr,sa, *]
     all_goals try omega
     refine af.mono (ri _ ah v ws (SLr.ko RW.mono hv hS.ko) hu p (by omega) (by omega)) ?_
     rintro rr Y ⟨rfl,sY⟩
     have iw:=hS.trans sY
     have xj:=iw.lo
     have xk:=iw.ag
     have BO:=hO.same sY
     have zi7:(acc.length:Int)+1≤ws.length:=by omega
     clear sY cf
     simp only[bO]
     repeat'(first|(apply ak<;>intro)|((with_reducible show af _ _ _ _ _);refine ao Y (rj _ ah (aU ws p)) ?_;intro H2 k2 l2 n2 g2 q2;try simp(disch:=omega)only[sm,sl]at l2 n2 g2 q2)|((with_reducible show Qs _ _ _ _ _);refine aG _ _ _ ?_)|simp(disch:=omega)only[↓aa,ab,simprocAttr,sa,bO,ug.1, *])
     all_goals try omega
     have PL:aq Y H2:=aA
     obtain⟨H3,xl,mn,rh,xo⟩:=vI (size:=1) (bytes:=8) (k:=1) (new:=[.int .i64 p]) (BO.same (PL.trans (eO [.int .i64 p]))) (by simp(disch:=omega)only[ay,aN,az,aF,aE,aB,aM,aO,aQ,aP,aL,aD,aH,au,sl];omega) (by simp(disch:=omega)only[ay,aN,az,aF,aE,aB,aM,aO,aQ,aP,aL,aD,aH,au,sl];omega) (by omega) rfl rfl (mU (by omega))
     have s3:aq H H3:=rh.same (iw.trans (PL.trans (eO _))) (wy _)
     have IN:=s3.lo
     rw[az]at mn xl
     have mo:dD H.next 1 H3 (.slice (some ⟨H2.next+1,0,none⟩) (acc.length+1) (acc.length+1)) (acc++[p]).length ((acc++[p]).map cx):=by
      rw[wN,waT]
      exact mn
     have jz:(acc++[p]).length=acc.length+1:=wN
     generalize acc++[p]=a2 at mo sQ jz
     simp(disch:=omega)only[↓aa,ab,simprocAttr,sa,cw,nw, *]
     all_goals try omega
     refine hQ _ _ _ ?_ ⟨p+ct (aU ws p),_,a2,rfl,?_,?_,trivial,trivial,by omega,by omega,by omega,by omega,bM,sQ,mo,s3⟩<;>exact aJ
    |false=>
     have oR:=wbI oa
     have iW:iX ws top p=[⟨p,gI,ik ws top p,true⟩]:=zf8 xq oR
     have bM:(kC (iX ws top s.ae)).2=ik ws top p:=by
      rw[hE,iW]
      rfl
     have aX:¬ (kC (iX ws top s.ae)).2=0:=by
      rw[bM]
      exact oR
     clear hE hA iW oa
     by_cases hh:cy ws p=0
     ·have h2:ik ws top p=2:=by
       unfold ik at oR⊢
       split
       ·rfl
       ·rename_i hx
        rw[wI hx]at oR
        exact absurd hh oR
      have Nd:top<p+ct (aU ws p):=by
       refine Int.not_le.mp fun hx=>oR ?_
       unfold ik
       rw[wI (by omega)]
       exact hh
      have cf:=kx hh
      have bf:=yS (h:=aU ws p)
      have hp3:p<ws.length:=cf.2.1
      clear cf oR
      rw[h2]at bM
      clear h2
      simp(disch:=omega)only[↓aa,ab,simprocAttr,sa, *]
      all_goals try omega
      refine af.mono (ri _ ah v ws (SLr.ko RW.mono hv hS.ko) hu p (by omega) (by omega)) ?_
      rintro rr Y ⟨rfl,sY⟩
      have iw:=hS.trans sY
      have xj:=iw.lo
      have xk:=iw.ag
      rw[hh]
      clear sY hh
      simp only[bO]
      repeat'(first|((with_reducible show af _ _ _ _ _);refine ao Y (rj _ ah (aU ws p)) ?_;intro H2 k2 l2 n2 g2 q2;try simp(disch:=omega)only[sm,sl]at l2 n2 g2 q2)|((with_reducible show Qs _ _ _ _ _);refine aG _ _ _ ?_)|simp(disch:=omega)only[↓aa,ab,simprocAttr,sa,bO, *])
      all_goals try omega
      exact⟨⟨_,_,rfl,SLr.nil,⟨rfl,.inl ⟨rfl,rfl⟩⟩⟩,iw.trans aA⟩
     ·have h2:ik ws top p=cy ws p:=by
       unfold ik
       rw[wI (fun hx=>hh hx.1)]
      rw[h2]at bM
      have d2:decide (cy ws p=0)=false:=wx hh
      clear h2 hh oR
      simp(disch:=omega)only[↓aa,ab,simprocAttr,sa, *]
      all_goals try omega
      refine af.mono (ri _ ah v ws (SLr.ko RW.mono hv hS.ko) hu p (by omega) (by omega)) ?_
      rintro rr Y ⟨rfl,sY⟩
      have iw:=hS.trans sY
      have xj:=iw.lo
      have xk:=iw.ag
      clear sY
      simp only[bO]
      repeat'(first|((with_reducible show Qs _ _ _ _ _);refine aG _ _ _ ?_)|simp(disch:=omega)only[↓aa,ab,simprocAttr,sa,bO, *])
      all_goals try omega
      rw[wI (wbI d2)]
      exact⟨⟨_,_,rfl,SLr.nil,⟨rfl,.inl ⟨rfl,rfl⟩⟩⟩,iw.trans aA⟩
   ·have jy:iX ws top p=[⟨p,gI,0,true⟩]:=zf9 xq
    have ep:p=top:=by omega
    subst ep
    rw[jy]at hE hA
    have bM:(kC (iX ws p s.ae)).2=0:=by rw[hE];rfl
    have sQ:gu (iX ws p s.ae)=acc:=by rw[hA];exact waw _
    clear hE hA jy
    have hR:=BK hO rfl (by omega) (EH X1 _)
    repeat'(first|((with_reducible show Qs _ _ _ _ _);refine ai _ _ _ _ ?_)|simp(disch:=omega)only[↓aa,ab,simprocAttr,sa, *])
    all_goals try omega
    exact⟨_,_,rfl,hR,hO⟩
  ·have eA:¬ (bt s∧s.ae≤top∧top≤s.stop):=fun h=>h1 h.2
   rw[EY ws s top eA]
   repeat'(first|(apply ak<;>intro)|apply bw|((with_reducible show af _ _ _ _ _);refine ao H (iu _ ah s) ?_;intro H2 k2 l2 n2 g2 q2;try simp(disch:=omega)only[sm,sl]at l2 n2 g2 q2)|simp(disch:=omega)only[↓aa,ab,simprocAttr,sa,bh,wz hm, *])
   all_goals try omega
   all_goals exact⟨⟨_,_,rfl,SLr.nil,⟨rfl,.inl ⟨rfl,rfl⟩⟩⟩,aA⟩
 ·have eA:¬ (bt s∧s.ae≤top∧top≤s.stop):=fun h=>hm h.1
  rw[EY ws s top eA]
  repeat'(first|((with_reducible show af _ _ _ _ _);refine ao H (iu _ ah s) ?_;intro H2 k2 l2 n2 g2 q2;try simp(disch:=omega)only[sm,sl]at l2 n2 g2 q2)|simp(disch:=omega)only[↓aa,ab,simprocAttr,sa,bh,wx hm, *])
  all_goals try omega
  all_goals exact⟨⟨_,_,rfl,SLr.nil,⟨rfl,.inl ⟨rfl,rfl⟩⟩⟩,aA⟩
def aS(s:St):List Int:=(cP s).1++s.table.map (·.ae)
theorem dD.down{b c z n:Nat}{H:Heap}{v:Value}{cs:List Value}(h:dD b z H v n cs)(hc:c≤b):dD c z H v n cs:=by
 obtain⟨h0,h1|⟨r,h1,h2,h3,h4|⟨g,aT,h4,h5,h6,h7⟩⟩⟩:=h
 ·exact⟨h0,.inl h1⟩
 ·exact⟨h0,.inr ⟨r,h1,wK hc h2,h3,.inl h4⟩⟩
 ·exact⟨h0,.inr ⟨r,h1,wK hc h2,h3,.inr ⟨g,aT,h4,wK hc h5,h6,h7⟩⟩⟩
theorem Ps(H:Heap)(an:H.lo≤H.next){s:St}{w t f zl:Value}(hS:eK H s w t f zl)(hu:∀ x∈s.words,x<2^64)(hl:s.words.length≤98304)(ht:s.table.length≤1000)(nt: -9223372036854775808≤s.top∧s.top≤9223372036854775807)(fH:(cP s).1.length≤50000):af E (aK 93) [cz s w t f zl] H fun r H'=>(SLr (RInt .i64) 1 H' r (aS s)∧dD H.next 1 H' r (aS s).length ((aS s).map cx))∧aq H H':=by
 have hv:=hS.t
 have oQ:=hS.w
 obtain⟨⟨wa,wc,rfl,_⟩,_⟩:=hS.w
 obtain⟨⟨fa,fc,rfl,_⟩,_⟩:=hS.f
 obtain⟨⟨iK,sc,rfl,_⟩,_⟩:=hS.sl
 obtain⟨⟨ta,tc,rfl,⟨_,ft⟩,bs⟩, -⟩:=hv
 clear hS
 refine aV Tryz.f93 ?_
 simp only[Tryz.f93]
 unfold cz
 repeat'(first|refine aw 1 [Fx,Fx,Fx,Fx,Fx,Fx,Tx,Fx,Fx,Fx,Fx,Fx,Fx,Fx,Fx,Fx,Fx] ?_|((with_reducible show af _ _ _ _ _);refine ao H (IL _ ah s.cfg s.second) ?_;intro H2 k2 l2 n2 g2 q2;try simp(disch:=omega)only[sm,sl]at l2 n2 g2 q2)|simp(disch:=omega)only[↓aa,ab,simprocAttr,sa,cm,bh, *])
 all_goals try omega
 have kZ:Ko H2 (H2.bU H.lo):=aj
 have sZ:aq H (H2.bU H.lo):=(k2.trans kZ).same (aH H.lo)
 have oL:H.next<(H2.bU H.lo).next:=wq (wcd _) (wK n2 kZ.ag)
 have eB:=(kZ.objs H.next (by omega)).trans (g2 H.next (by omega))
 simp only[wbq,wai]at eB
 refine af.mono (Pt _ ah _ s.words (SLr.ko RW.mono oQ sZ.ko) hu hl (s.cfg.dz s.second) s.top nt) ?_
 generalize H2.bU H.lo=Z at*
 rintro rr Y ⟨⟨w1,k1,rfl, -,hO⟩,sY⟩
 rw[show iJ s.words (s.cfg.dz s.second) s.top=cP s from rfl]at hO⊢
 have loZ:=sZ.lo
 have xj:=sY.lo
 have xk:=sY.ag
 have eY:=sY.keeps oL eB
 simp(disch:=omega)only[↓aa,ab,simprocAttr,sa,cm,bh, *]
 all_goals try omega
 refine bP Y [1,3,6] (fun T1 H1 u1 j1 n1 l1 g1=>?_) aj
 try simp(disch:=omega)only[sm,sl]at n1 l1 g1
 simp only[sq,simprocAttr]at u1
 refine bL kq (fun nn T X=>∃ (i:Nat) (v:Value),nn=s.table.length-i∧(T.get 3=some (v)∧T.get 6=some (.int .i64 i))∧(T.get 1=T1.get 1)∧True∧True∧(i≤s.table.length∧dD Z.next 1 X v ((cP s).1++(s.table.take i).map (·.ae)).length (((cP s).1++(s.table.take i).map (·.ae)).map cx)∧aq Z X)) ?_ ?_
 ·have Pu:aq Y H1:=j1.same l1
  have nu:=hO.same Pu
  rw[←waw (cP s).1]at nu
  refine⟨_,0,_,rfl,?_,?_,trivial,trivial,wJ _,nu,sY.trans Pu⟩<;>exact aJ
 rintro nn dA X1 ⟨i,vo,rfl,m1,w1,_,_,hi,eM,hS⟩ Qs hQ aG ai
 have EO:=hS.lo
 have EP:=hS.ag
 have eX:=hS.keeps oL eB
 have pq:(s.table.map (·.ae)).length=s.table.length:=wO _
 by_cases hlt:i<s.table.length
 ·obtain⟨r,o,cells,gg,tt,part,rfl,hr,aC,aR,rfl⟩:=bs i s.table[i] (by simp)
  have a1:=bn hlt
  have e1:=(sZ.trans hS).keeps hr aC
  have bM:(cP s).1++(s.table.take (i+1)).map (·.ae)=((cP s).1++(s.table.take i).map (·.ae))++[s.table[i].ae]:=by
   rw[wR,wj hlt,wcx,waT,waP]
   rfl
  have bj:((cP s).1++(s.table.take i).map (·.ae)).length≤51000:=by
   rw[wN,wO,wU]
   omega
  generalize (cP s).1++(s.table.take i).map (·.ae)=L1 at bM eM bj
  generalize s.table[i]=x at aR bM
  obtain⟨c1,c2⟩:=qJ aR
  obtain⟨H3,xl,mn,rh,xo⟩:=vI (size:=1) (bytes:=8) (k:=1) (new:=[.int .i64 x.ae]) (eM.same (eO [.int .i64 x.ae])) (by simp(disch:=omega)only[ay,aN,az,aF,aE,aB,aM,aO,aQ,aP,aL,aD,aH,au,sl];omega) (by simp(disch:=omega)only[ay,aN,az,aF,aE,aB,aM,aO,aQ,aP,aL,aD,aH,au,sl];omega) (by omega) rfl rfl (mU (by omega))
  have s3:aq Z H3:=rh.same (hS.trans (eO _)) (wy _)
  have IN:=s3.lo
  rw[az]at mn xl
  have mo:dD Z.next 1 H3 (.slice (some ⟨X1.next+1,0,none⟩) (L1.length+1) (L1.length+1)) ((cP s).1++(s.table.take (i+1)).map (·.ae)).length (((cP s).1++(s.table.take (i+1)).map (·.ae)).map cx):=by
   rw[bM,wN,waT]
   exact mn
  clear bM
  repeat'(first|(apply ak<;>intro)|((with_reducible show Qs _ _ _ _ _);refine ai _ _ _ _ ?_)|simp(disch:=omega)only[↓aa,ab,simprocAttr,sa,cw,nw, *])
  all_goals try omega
  refine hQ _ _ _ ?_ ⟨i+1,_,rfl,?_,?_,trivial,trivial,by omega,mo,s3⟩<;>exact aJ
 ·have ei:i=s.table.length:=by omega
  subst ei
  rw[waj]at eM
  have hR:=BK eM rfl (by rw[wN];omega) (EH X1 _)
  repeat'(first|(apply ak<;>intro)|((with_reducible show Qs _ _ _ _ _);refine ai _ _ _ _ ?_)|simp(disch:=omega)only[↓aa,ab,simprocAttr,sa, *])
  all_goals try omega
  exact⟨⟨hR,eM.down (waz oL)⟩,sZ.trans hS⟩
def eh(all:List Int)(w:Nat):bu:=if((dJ w).getD .none).kind=2 then⟨2,(all.idxOf ((dJ w).getD .none).x:Nat)⟩else(dJ w).getD .none
def qb(ws:List Nat)(p:Int):List Nat:=(ws.drop (p.toNat+1)).take (aU ws p).fields.toNat
def rz(ws:List Nat)(p:Int):List Nat:=(ws.drop (p.toNat+1+(aU ws p).fields.toNat)).take (aU ws p).bC.toNat
def qd(ws:List Nat)(all:List Int)(p:Int):Gn:=⟨(aU ws p).kind,(qb ws p).map (eh all),rz ws p⟩
def fM(l:List Slot)(all:List Int):List bu:=(l.filter (·.used)).map fun x=>eh all x.word
def fB(s:St):Gr:=⟨(aS s).map (qd s.words (aS s)),fM s.aI (aS s)⟩
def uD(all:List Int)(w:Nat):Prop:=∃ v,dJ w=some v∧(v.kind=2→v.x∈all)
structure QK(s:St):Prop where
 nodup:(aS s).Nodup
 obj:∀ p∈aS s,cy s.words p=0
 vE:∀ p∈aS s,∀k:Nat,(k:Int)<(aU s.words p).fields→uD (aS s) (da s.words (p+1+k))
 slot:∀ x∈s.aI,x.used=true→uD (aS s) x.word
theorem QL(s:St):∀ n i,sF s i n=0→∀ k,i≤k→k<i+n→jN s k=true
 |0,i,_,k,h1,h2=>by omega
 |n+1,i,h,k,h1,h2=>by
  unfold sF at h
  split at h
  ·rename_i hb
   by_cases e:k=i
   ·rw[e];exact hb
   ·exact QL s n (i+1) h k (by omega) (by omega)
  ·omega
theorem zhn(v:mf)(l:List mf)(h:v.last=false):gu (v::l)=v.ae::gu l:=by
 unfold gu
 rw[wce,h]
 rfl
theorem QM{ws:List Nat}{top:Int}:∀ (n:Nat) (p:Int),(∀x∈gu (dF ws top n p),p≤x∧x<top)∧(gu (dF ws top n p)).Nodup
 |0,p=>⟨fun x h=>(by cases h),wbv⟩
 |n+1,p=>by
  rw[dF]
  split
  ·rename_i h1
   split
   ·rename_i h2
    have h3:=vX (qU h2).1
    obtain⟨i1,i2⟩:=QM n (p+ct (aU ws p)) (ws:=ws) (top:=top)
    rw[zhn _ _ rfl]
    refine⟨fun x hx=>?_,List.nodup_cons.2 ⟨fun hx=>?_,i2⟩⟩
    ·rcases wad.1 hx with rfl|hx
     ·exact⟨Int.le_refl _,h1⟩
     ·have:=i1 x hx;omega
    ·have:=i1 _ hx
     dsimp only at this
     omega
   ·exact⟨fun x h=>(by cases h),wbv⟩
  ·exact⟨fun x h=>(by cases h),wbv⟩
theorem QN{all:Span}:∀ {l:List Span} {p:Option Span},fG all p l=true→(l.map (·.ae)).Nodup
 |[],_,_=>wbv
 |x::l,p,h=>by
  rw[vW,wA]at h
  have h2:=QN h.2
  obtain⟨_,_,h3⟩:=uo h.2
  rw[wbk]
  refine List.nodup_cons.2 ⟨fun hx=>?_,h2⟩
  obtain⟨y,hy,e⟩:=wbG.1 hx
  have h4:=h3 x rfl y hy
  rw[wA]at h
  have h5:=wap h.1.1 |>.1
  unfold bt at h5
  omega
theorem JD(x:Int):∀ (l ks:List Int),x∈l.foldl oN ks↔x∈ks∨x∈l
 |[],ks=>by simp
 |y::l,ks=>by
  rw[wb4,JD x l]
  unfold oN
  split
  ·rename_i h
   simp only[wad]
   constructor
   ·rintro(h1|h1)
    ·exact .inl h1
    ·exact .inr (.inr h1)
   ·rintro(h1|h1|h1)
    ·exact .inl h1
    ·subst h1;exact .inl h
    ·exact .inr h1
  ·simp only[waI,wad,wbb,wck]
   constructor
   ·rintro((h1|h1)|h1)
    ·exact .inl h1
    ·exact .inr (.inl h1)
    ·exact .inr (.inr h1)
   ·rintro(h1|h1|h1)
    ·exact .inl (.inl h1)
    ·exact .inl (.inr h1)
    ·exact .inr h1
theorem mem_keys(s:St)(x:Int):x∈gK s↔x∈aS s:=by
 have e:gK s=(s.table.map (·.ae)).foldl oN (sE s):=by unfold gK By;rw[List.foldl_map]
 rw[e,JD,aS,waI]
 unfold sE
 rw[JD]
 simp
theorem QO{s:St}{w:Nat}(h:fx (gK s) w=true):uD (aS s) w:=by
 unfold fx at h
 cases hd:dJ w with
 |none=>rw[hd]at h;cases h
 |some v=>
  rw[hd]at h
  refine⟨v,hd,fun hk=>?_⟩
  have h:(if v.kind=2 then decide (v.x∈gK s)else true)=true:=h
  rw[wF hk]at h
  exact(mem_keys s _).1 (wap h)
theorem zI{s:St}(h:dR s=0):QK s:=by
 have hr:=fun k hk=>QL s 9 0 h k (wJ _) (by omega:k<0+9)
 have r0:s.cfg.Ok:=wap (hr 0 (by omega))
 have r2:oo s:=wap (hr 2 (by omega))
 have r5:hU s=true:=hr 5 (by omega)
 have r7:(gK s).all (jm s.words (gK s))=true:=hr 7 (by omega)
 have r8:s.aI.all (iL (gK s))=true:=hr 8 (by omega)
 unfold hU at r5
 rw[wA]at r5
 have uq:fG s.cfg.jk none s.table=true:=by
  have:=r5.1
  unfold jK at this
  rw[wA]at this
  exact this.1
 have fF:(∀x∈(cP s).1,x<s.top)∧(cP s).1.Nodup:=by
  unfold cP
  by_cases h:bt (s.cfg.dz s.second)∧(s.cfg.dz s.second).ae≤s.top∧s.top≤(s.cfg.dz s.second).stop
  ·rw[I5 _ _ _ h]
   split
   ·obtain⟨i1,i2⟩:=QM (ws:=s.words) (top:=s.top) (s.top-(s.cfg.dz s.second).ae).toNat (s.cfg.dz s.second).ae
    exact⟨fun x hx=>(i1 x hx).2,i2⟩
   ·exact⟨fun x h=>(by cases h),wbv⟩
  ·rw[EY _ _ _ h]
   exact⟨fun x h=>(by cases h),wbv⟩
 have dg:∀ p∈aS s,cy s.words p=0:=fun p hp=>by
  rcases waI.1 hp with hp|hp
  ·exact(Bx s p hp).1
  ·obtain⟨y,hy,rfl⟩:=wbG.1 hp
   have:=waC.1 r5.2 y hy
   unfold fy at this
   simp only[wA]at this
   exact wap this.1.1.1
 refine⟨?_,dg,fun p hp k hk=>?_,fun x hx hu=>?_⟩
 ·refine List.nodup_append.2 ⟨fF.2,QN uq,fun a ha b hb e=>?_⟩
  obtain⟨y,hy,rfl⟩:=wbG.1 hb
  have h1:=fF.1 a ha
  have h2:=(uo uq).1 y hy
  unfold qQ at h2
  unfold oo at r2
  have hM:=h2.1
  unfold bt at hM
  have hc:=r0
  unfold cj.Ok at hc
  have hb:s.cfg.jk=s.cfg.yP:=wF r0
  have hf:s.cfg.dz s.second=if s.second then⟨s.cfg.eP,s.cfg.eP⟩else⟨0,s.cfg.eP⟩:=wF r0
  rw[hb]at h2
  unfold cj.yP at h2
  rw[hf]at r2
  split at h2<;>split at r2<;>dsimp only at h2 r2<;>omega
 ·have h1:=waC.1 r7 p ((mem_keys s p).2 hp)
  unfold jm at h1
  have hf:=kx (dg p hp)
  have hh:=ku hf.2.2.1
  have h2:=waC.1 h1 k (wcc.2 (by omega))
  have e1:iH s.words p k false=0:=by
   unfold iH
   rw[wF (dg p hp)]
   exact wF ⟨by omega,hk⟩
  have e2:jl s.words p k false=da s.words (p+1+k):=by
   unfold jl kv
   rw[wF e1,wF e1]
   simp
  rw[e2]at h2
  exact QO h2
 ·have h1:=waC.1 r8 x hx
  unfold iL at h1
  rw[hu]at h1
  exact QO h1
theorem zho(x:Int): -9223372036854775808≤IntKind.i64.wrap x∧IntKind.i64.wrap x≤9223372036854775807:=by
 simp only[IntKind.wrap,IntKind.bits,IntKind.signed]
 simp
 omega
theorem zhp{w:Nat}{v:bu}(hw:w<2^64)(h:dJ w=some v):v.Ok:=by
 unfold dJ at h
 have jb:=zho w
 split at h
 ·cases h
  exact .inr (.inl ⟨rfl,by dsimp only;omega,by dsimp only;omega⟩)
 ·split at h
  ·cases h
   exact .inr (.inr ⟨rfl,by dsimp only;omega,by dsimp only;omega⟩)
  ·split at h
   ·cases h;exact .inl ⟨rfl,rfl⟩
   ·cases h
theorem QP{all:List Int}{w:Nat}(hw:w<2^64)(h:uD all w)(hl:all.length≤1000000):ny all.length (eh all w):=by
 obtain⟨v,hd,hv⟩:=h
 have h1:=zhp hw hd
 unfold eh
 rw[hd,wbr]
 by_cases hk:v.kind=2
 ·rw[wF hk]
  have h2:=wb6 (hv hk)
  exact⟨.inr (.inr ⟨rfl,by dsimp only;omega,by dsimp only;omega⟩),fun _=>by dsimp only;omega⟩
 ·rw[wI hk]
  exact⟨h1,fun q=>absurd q hk⟩
theorem JE{ws:List Nat}{p:Int}(h:cy ws p=0):(qb ws p).length=(aU ws p).fields.toNat∧(rz ws p).length=(aU ws p).bC.toNat:=by
 obtain⟨h1,h2,h3,h4,_⟩:=kx h
 have h5:=ku h3
 have hs:ct (aU ws p)=1+(aU ws p).fields+(aU ws p).bC:=by unfold ct;rw[wF h3]
 unfold qb rz
 rw[wU,wbe,wU,wbe]
 omega
theorem JF{ws:List Nat}{p:Int}(h:cy ws p=0){k:Nat}(hk:k<(aU ws p).fields.toNat):(qb ws p)[k]? =some (da ws (p+1+k)):=by
 obtain⟨h1,h2,h3,h4,_⟩:=kx h
 have h5:=ku h3
 have hs:ct (aU ws p)=1+(aU ws p).fields+(aU ws p).bC:=by unfold ct;rw[wF h3]
 unfold qb da
 rw[wab,wF hk,wae,wav,show(p+1+(k:Int)).toNat=p.toNat+1+k by omega,wj (by omega)]
 rfl
theorem uC(s:St):(cP s).1.length≤s.words.length:=by
 unfold cP
 by_cases h:bt (s.cfg.dz s.second)∧(s.cfg.dz s.second).ae≤s.top∧s.top≤(s.cfg.dz s.second).stop
 ·rw[I5 _ _ _ h]
  split
  ·have:=Iy (ws:=s.words) (top:=s.top) (s.top-(s.cfg.dz s.second).ae).toNat (s.cfg.dz s.second).ae h.1.1
   exact wK this (Nat.sub_le _ _)
  ·exact wJ _
 ·rw[EY _ _ _ h];exact wJ _
theorem E9{s:St}(hw:s.words.length≤98304)(ht:s.table.length≤1000):(aS s).length≤1000000:=by
 have:=uC s
 unfold aS
 rw[wN,wO]
 omega
theorem Fa{s:St}(h:QK s)(hu:∀ x∈s.words,x<2^64)(hs:∀ x∈s.aI,x.word<2^64)(hl:(aS s).length≤1000000):jT (fB s):=by
 have hn:(fB s).nodes.length=(aS s).length:=wO ..
 have vi:∀ i,da s.words i<2^64:=fun i=>by
  unfold da
  rw[wav]
  cases hc:s.words[i.toNat]? with
  |none=>simp
  |some w=>exact hu w (wag hc)
 refine⟨fun x hx=>?_,fun v hv=>?_⟩
 ·obtain⟨p,hp,rfl⟩:=wbG.1 hx
  have ho:=h.obj p hp
  obtain⟨h1,h2,h3,h4,_⟩:=kx ho
  have h5:=ku h3
  obtain⟨l1,l2⟩:=JE ho
  refine⟨h5.1,h5.2.1,?_,?_,fun v hv=>?_⟩
  ·show((qb s.words p).map _).length≤4096
   rw[wO,l1];omega
  ·show(rz s.words p).length≤4096
   rw[l2];omega
  ·obtain⟨w,hw,rfl⟩:=wbG.1 hv
   obtain⟨k,hk,rfl⟩:=wbL.1 hw
   have gR:k<(aU s.words p).fields.toNat:=by rw[←l1];exact hk
   have e:=JF ho gR
   rw[wj hk,wi]at e
   rw[hn,e]
   exact QP (vi _) (h.vE p hp k (by omega)) hl
 ·obtain⟨x,hx,rfl⟩:=wbG.1 hv
  obtain⟨vV,oJ⟩:=List.mem_filter.1 hx
  rw[hn]
  exact QP (hs x vV) (h.slot x vV oJ) hl
theorem zgr{ws:List Nat}{i:Int}(h:cy ws i=0):kp (da ws i)=true:=by
 have hp:=Oo h
 unfold cy at h
 rw[wF hp]at h
 split at h
 ·assumption
 ·omega
theorem zgs(H:Heap)(an:H.lo≤H.next){s:St}{w t f zl:Value}(hS:eK H s w t f zl)(hu:∀ x∈s.words,x<2^64)(i:Int)(hi:cy s.words i=0):af E (aK 63) [cz s w t f zl,.int .i64 i] H fun r H'=>r= .tuple #[bO (aU s.words i),.int .i64 0]∧aq H H':=by
 obtain⟨h1,h2,h3,h4,h5⟩:=kx hi
 have h6:=zgr hi
 have bf:=yS (h:=aU s.words i)
 obtain⟨⟨wa,wc,rfl,⟨_,Jc⟩,fS⟩,_⟩:=hS.w
 obtain⟨⟨ta,tc,rfl,_⟩,_⟩:=hS.t
 obtain⟨⟨fa,fc,rfl,_⟩,_⟩:=hS.f
 obtain⟨⟨za,zc,rfl,_⟩,_⟩:=hS.sl
 clear hS
 have hq:i.toNat<s.words.length:=by omega
 obtain⟨r,o,cells,g,tt,part,rfl,hr,aC,aR,rfl⟩:=fS i.toNat s.words[i.toNat] (by simp[hq])
 have qw:=jS aR
 have xu:s.words[i.toNat]=da s.words i:=by
  unfold da
  rw[wav,wj hq]
  rfl
 have kD:da s.words i<2^64:=by rw[←xu];exact hu _ (wam hq)
 have c1:=fun(X:Heap) (hx:X.lo≤X.next)=>Ib X hx (da s.words i) kD
 rw[h6,wF rfl,wF rfl,←h5]at c1
 have c2:=fun(X:Heap) (hx:X.lo≤X.next)=>qP X hx (aU s.words i)
 rw[xu]at qw
 simp only[wV]at qw
 have ha:at? i s.words.length=some i.toNat:=by
  rw[show i=((i.toNat:Nat):Int) by omega]
  exact bn hq
 unfold bO at c1 c2⊢
 clear aR fS h3 h5 h6 hi xu
 refine aV Tryz.f63 ?_
 simp only[Tryz.f63]
 unfold cz
 repeat'(first|(apply ak<;>intro)|apply bw|refine aw 6 [Fx,Tx,Fx,Fx,Fx,Fx,Fx,Fx,Fx] ?_|((with_reducible show af _ _ _ _ _);(first|refine ao H (c1 _ ah) ?_|refine ao H (c2 _ ah) ?_);intro H2 k2 l2 n2 g2 q2;try simp(disch:=omega)only[sm,sl]at l2 n2 g2 q2)|simp(disch:=omega)only[↓aa,ab,simprocAttr,sa, *])
 all_goals exact bq
def OE(b z:Nat)(H:Heap)(v:Value)(n:Nat)(cs:List Value):Prop:=(∃go,OS b z H v n cs go)∨(n=0∧cs=[]∧∃ q,v= .slice (some ⟨q,0,none⟩) 0 0∧b≤q∧q<H.next∧H.objs.get q=some (.row [] none true))
theorem OS.dd{b z n:Nat}{H:Heap}{cs:List Value}(hb:b≤H.next)(hn:n≤1000000000)(hl:cs.length=n*z):OS b z (H.dd z cs) (.slice (some ⟨H.next,0,none⟩) n n) n cs (some H.next):=
 ⟨H.next,n,cs,[],rfl,⟨wy _,hn⟩,hl,by rw[wZ (by omega)],by rw[jj,cr rfl];rfl,by rw[lz,cr rfl];rfl,hb,by rw[gH];omega,hb,by rw[gH];omega,fun x hx=>(by cases hx),by simp⟩
theorem zgt{H:Heap}{cs:List Value}{l:List Int}(h:cY (RInt .i64) 1 H cs l):cs=l.map cx:=by
 refine waR fun i=>?_
 rw[war]
 by_cases hi:i<l.length
 ·obtain⟨part,h1,h2⟩:=h.2 i l[i] (by simp[hi])
  rw[h2,waY]at h1
  rw[Oc h1,wj hi];rfl
 ·have:=h.1
  rw[wak (by omega),wak (by omega)];rfl
theorem PX(d:Nat)(a:Addr)(n c n' c':Nat):eqV E (d+1) 45 (.slice (some a) n c) (.slice none n' c')=some false:=kq
theorem zgu(H:Heap)(an:H.lo≤H.next)(v:Value)(l:List Int)(hv:SLr (RInt .i64) 1 H v l)(hl:l.length≤100000):af E (aK 103) [v] H fun r H'=>OE H.next 1 H' r l.length (l.map cx)∧aq H H':=by
 obtain⟨hs,hr⟩:=hv
 have sN:aq H (H.newRow []):=eO _
 obtain⟨a,c,cs,rfl,eJ,om⟩:=(hs.mono (RInt.mono _) sN).vJ (hr.same sN)
 have lU:(H.newRow []).objs.get H.next=some (.row [] none true):=by simp(disch:=omega)only[ay,aN,az,aF,aE,aB,aM,aO,aQ,aP,aL,aD,aH,au,sl]
 rw[waY]at eJ
 have eD:=zgt om
 subst eD
 refine aV Tryz.f103 ?_
 simp only[Tryz.f103]
 cases a with
 |none=>
  have e0:l=[]:=by
   cases l with
   |nil=>rfl
   |cons x l=>
    obtain⟨a',c',e,_,h⟩:=hs
    simp only[waq]at e
    obtain⟨r,o,_,_,_,_,h0,_⟩:=h 0 x rfl
    rw[h0]at e
    cases e.1
  subst e0
  simp(disch:=omega)only[↓aa,ab,simprocAttr,sa,wcy, *]
  exact⟨.inl ⟨none,OS.nil _ _ _⟩,aA⟩
 |some a=>
  by_cases aX:l.length=0
  ·have e0:l=[]:=wac aX
   subst e0
   simp only[waA]at eJ
   have cK:=BC (z:=1) (b:=8) (H:=H.newRow []) ⟨H.next,0,none⟩ 0 rfl (([]:List Int).map cx)
   simp(disch:=omega)only[↓aa,ab,simprocAttr,sa,PX,cw,dW,waA, *]
   exact .inr ⟨rfl,rfl,H.next,rfl,wy _,by simp(disch:=omega)only[ay,aN,az,aF,aE,aB,aM,aO,aQ,aP,aL,aD,aH,au,sl];omega,lU⟩
  ·have cK:=vR (z:=1) (b:=8) (k:=l.length) (new:=l.map cx) lU aX (by simp[eu,kV,cw];omega)
   simp(disch:=omega)only[↓aa,ab,simprocAttr,sa,PX,cw,dW, *]
   have g:=uk (b:=H.next) (H:=H.newRow []) (by simp(disch:=omega)only[ay,aN,az,aF,aE,aB,aM,aO,aQ,aP,aL,aD,aH,au,sl];omega) 1 (l.map cx)
   have hO:=OS.dd (b:=H.next) (z:=1) (n:=l.length) (H:=H.newRow []) (cs:=l.map cx) (by simp(disch:=omega)only[ay,aN,az,aF,aE,aB,aM,aO,aQ,aP,aL,aD,aH,au,sl];omega) (by omega) (by rw[wO,waY])
   simp(disch:=omega)only[sm,sl]at hO
   exact⟨.inl ⟨_,hO⟩,g.same sN (wy _)⟩
theorem QR{g:Gr}(hg:kL g):∀ (m:Nat) (l:List Nat) (k:Nat),l.Nodup→(∀i∈l,i<g.nodes.length)→g.nodes.length≤k+m→∃ o,pZ g l k o
 |0,l,k,h1,h2,h3=>⟨l,.done (by have:=zH _ l h1 h2;omega)⟩
 |m+1,l,k,h1,h2,h3=>by
  by_cases hk:k<l.length
  ·obtain⟨o,ho⟩:=QR hg m (dM l (lH g l[k])) (k+1) (sV _ _ h1) (Ch (hg.lH _) h2) (by omega)
   exact⟨o,.step (wj hk) ho⟩
  ·exact⟨l,.done hk⟩
theorem Fb{g:Gr}(hg:kL g):∃ o,Order g o:=
 QR hg g.nodes.length _ 0 (sV _ _ wbv) (Ch hg.roots fun x hx=>(by cases hx)) (by omega)
theorem zhw{g:Gr}{l o:List Nat}{k:Nat}(h:pZ g l k o):∀ {p:List Nat},pZ g l k p→o=p:=by
 induction h with
 |done hk=>
  intro p h2
  cases h2 with
  |done _=>rfl
  |step e _=>exact absurd (wD.1 e).1 hk
 |@step l o k i hk r ih=>
  intro p h2
  cases h2 with
  |done h=>exact absurd (wD.1 hk).1 h
  |step e r2=>
   rw[hk]at e
   cases e
   exact ih r2
theorem JI{g:Gr}{o p:List Nat}(h:Order g o)(h2:Order g p):o=p:=zhw h h2
def QS(a b:Gr):Prop:=∃ o p,Order a o∧Order b p∧fz a o=fz b p
theorem QT{a b:Gr}{o p:List Nat}(h1:Order a o)(h2:Order b p):QS a b↔fz a o=fz b p:=
 ⟨fun⟨o',p',h3,h4,e⟩=>by rw[JI h1 h3,JI h2 h4];exact e,fun e=>⟨o,p,h1,h2,e⟩⟩
def zK(s r:St):Prop:=dR s=0∧dR r=0∧QS (fB s) (fB r)
structure qf(g:Gr)(l:List Nat)(k:Nat):Prop where
 nodup:l.Nodup
 lt:∀ i∈l,i<g.nodes.length
 le:k≤l.length
 to:∀ o,pZ g l k o→Order g o
theorem qf.first{g:Gr}(hg:kL g):qf g (dM [] g.roots) 0:=
 ⟨sV _ _ wbv,Ch hg.roots fun x hx=>(by cases hx),wJ _,fun _ h=>h⟩
theorem QU(l:List Nat)(vs:List bu):l.length≤(dM l vs).length:=(E7 vs l).length_le
theorem qf.next{g:Gr}(hg:kL g){l:List Nat}{k i:Nat}(h:qf g l k)(hk:l[k]? =some i):qf g (dM l (lH g i)) (k+1):=
 ⟨sV _ _ h.nodup,Ch (hg.lH _) h.lt,wK (wD.1 hk).1 (QU _ _),fun o ho=>h.to o (.step hk ho)⟩
theorem qf.last{g:Gr}{l:List Nat}{k:Nat}(h:qf g l k)(hk:¬ k<l.length):Order g l:=h.to l (.done hk)
theorem qf.len{g:Gr}{l:List Nat}{k:Nat}(h:qf g l k):l.length≤g.nodes.length:=zH _ l h.nodup h.lt
set_option maxHeartbeats 10000000
theorem IM(H:Heap)(an:H.lo≤H.next)(u:Bool)(gn w:Int):af E (aK 131) [.agg #[.bool u,.int .i64 gn,.int .u64 w]] H fun r H'=>r= .bool (oO gn)∧aq H H':=by
 refine aV Tryz.f131 ?_
 simp only[Tryz.f131]
 repeat'(first|(apply ak<;>intro)|simp(disch:=omega)only[↓aa,ab,simprocAttr,sa, *])
 all_goals(first|(with_reducible exact aA)|((with_reducible show _∧_);exact⟨by first|rfl|(simp[oO, *]<;>omega),aA⟩))
theorem zf(H:Heap)(an:H.lo≤H.next)(h:Hd):af E (aK 88) [bO h] H fun r H'=>r= .bool (qT h)∧aq H H':=by
 refine aV Tryz.f88 ?_
 simp only[Tryz.f88]
 unfold bO
 cases hm:h.mark
 all_goals(repeat' simp(disch:=omega)only[↓aa,ab,simprocAttr,sa, *])
 all_goals(first|(with_reducible exact aA)|((with_reducible show _∧_);exact⟨by first|rfl|(simp[qT, *]<;>omega),aA⟩))
theorem zfD(H:Heap)(an:H.lo≤H.next)(v:Value)(ks:List Int)(hv:SLr (RInt .i64) 1 H v ks)(w:Nat)(hw:w<2^64):af E (aK 94) [v,.int .u64 w] H fun r H'=>r= .bool (fx ks w)∧aq H H':=by
 refine aV Tryz.f94 ?_
 simp only[Tryz.f94]
 cases hd:dJ w with
 |none=>
  have e:fx ks w=false:=by unfold fx;rw[hd]
  repeat'(first|((with_reducible show af _ _ _ _ _);refine ao H (uy _ ah w hw) ?_;intro H2 k2 l2 n2 g2 q2;try simp(disch:=omega)only[sm,sl]at l2 n2 g2 q2)|simp(disch:=omega)only[↓aa,ab,simprocAttr,sa,cZ,Option.getD_none,Option.isSome_none, *])
  all_goals first
   |exact xW
   |contradiction
 |some x=>
  by_cases hk:x.kind=2
  ·have e:fx ks w=decide (x.x∈ks):=by unfold fx;rw[hd];exact wF hk
   repeat'(first|((with_reducible show af _ _ _ _ _);(first|refine ao H (uy _ ah w hw) ?_|refine ao H (zfE _ ah v ks (SLr.ko (RInt.mono _) hv aj) x.x) ?_);intro H2 k2 l2 n2 g2 q2;try simp(disch:=omega)only[sm,sl]at l2 n2 g2 q2)|simp(disch:=omega)only[↓aa,ab,simprocAttr,sa,cZ,wbr,wb1, *])
   all_goals first
    |exact xW
    |contradiction
  ·have e:fx ks w=true:=by unfold fx;rw[hd];exact wI hk
   repeat'(first|((with_reducible show af _ _ _ _ _);refine ao H (uy _ ah w hw) ?_;intro H2 k2 l2 n2 g2 q2;try simp(disch:=omega)only[sm,sl]at l2 n2 g2 q2)|simp(disch:=omega)only[↓aa,ab,simprocAttr,sa,cZ,wbr,wb1, *])
   all_goals first
    |exact xW
    |contradiction
end Go.AM
