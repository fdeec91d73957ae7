/-
  Walks over letters of the functions that the law reaches; written small by a program of mine.
-/
import Derived.Test.YtjgppeeplkidpaaGreatGC3
import Derived.Test.YtjgppeeplkidpaaGreatGB3
set_option linter.unusedVariables false
set_option linter.unusedSectionVars false
namespace Go.AM
attribute [local instance] fnMaps
open Go Go.Proofs
set_option maxRecDepth 100000
set_option maxHeartbeats 1000000
set_option linter.unusedSimpArgs false
theorem b8.setRow{b z n x:Nat}{v:Value}{cs c:List Value}{f:Option (Nat×Nat)}{X:Heap}(h:b8 b z X v n cs f)(hx:x<b):b8 b z (X.setRow x c) v n cs f:=by
 refine h.cJ (wy _) fun r g e=>?_
 subst e
 obtain⟨_,_,h2,_⟩:=h
 exact⟨by rw[ay,au (by omega)];rfl,rfl⟩
theorem Ko.grown{b:Nat}{H Y Z:Heap}(k:Ko H Y)(g:Grown b Y Z)(hb:H.next≤b):Ko H Z:=
 ⟨wK k.ag g.ag,fun x hx=>((g.below x (by omega)).1).trans (k.objs x hx),fun x hx=>((g.below x (by omega)).2).trans (k.grps x hx)⟩
theorem zaE:E.fn.get 253=some Tryz.f253:=kq
theorem zaF(H:Heap)(an:H.lo≤H.next)(all:Span)(v:Value)(l:List Span)(hv:SLr bD 2 H v l)(hr:sr l)(hw:∀ x∈l,qQ all x)(hl:l.length≤100000):af E (aK 253) [bh all,v] H fun r H'=>SLr bD 2 H' r (su all l)∧aq H H':=by
 have m0:isCell v=true∧cg v=[v]:=by
  obtain⟨⟨a,c,rfl,_⟩,_⟩:=hv
  exact⟨rfl,rfl⟩
 refine D7 kq zaE rfl rfl ?_
 simp only[Tryz.f253,bh]
 by_cases hm:bt all
 case neg=>
  have e:su all l=[]:=wI hm
  repeat'(first|((with_reducible show af _ _ _ _ _);refine ao H (qN _ ah all) ?_;intro H2 k2 l2 n2 g2 q2;try simp(disch:=omega)only[sm,sl]at l2 n2 g2 q2)|simp(disch:=omega)only[↓aa,ab,simprocAttr,sa,wL,waw, *])
  refine⟨_,rfl,?_⟩
  repeat'(first|refine ak (fun _=>?_) (fun _=>?_)|apply bw|refine cO (fun _=>?_) (fun _=>?_)|refine aw 7 [Fx,Fx,Fx,Tx,Fx] ?_|refine aw 10 [Fx,Fx,Tx,Fx,Fx] ?_|refine aw 11 [Fx,Fx,Tx,Fx] ?_|refine aw 12 [Fx,Fx,Fx,Tx,Fx,Fx,Fx,Fx,Fx,Fx] ?_|simp(disch:=omega)only[↓aa,ab,simprocAttr,sa, *])
  exact⟨SLr.nil,Bu aj rfl rfl⟩
 have e:su all l=ng all all.ae (gJ ⟨0,0⟩ l):=wF hm
 have eC:=hm
 unfold bt at eC
 have Oz:=Eu hm l ⟨0,0⟩ hw (.inl rfl)
 have bj:=Ih l ⟨0,0⟩
 generalize hrs:gJ ⟨0,0⟩ l=rs at e Oz bj
 repeat'(first|((with_reducible show af _ _ _ _ _);refine ao H (qN _ ah all) ?_;intro H2 k2 l2 n2 g2 q2;try simp(disch:=omega)only[sm,sl]at l2 n2 g2 q2)|simp(disch:=omega)only[↓aa,ab,simprocAttr,sa,wL,waw, *])
 obtain⟨Hm,rfl⟩:∃ Hm,Hm=H2:=⟨_,rfl⟩
 refine(zaG _ ah v m0.1 m0.2).mono ?_
 rintro r H3 ⟨rfl,b1,n3,s3⟩
 have k3:Ko H H3:=Ko.call aj s3
 have l3:=s3.lo
 have c2:=s3.objs H.next (by simp(disch:=omega)only[ay,aN,az,aF,aE,aB,aM,aO,aQ,aP,aL,aD,aH,au,sl];omega)
 have c5:=s3.objs Hm.next (by simp(disch:=omega)only[ay,aN,az,aF,aE,aB,aM,aO,aQ,aP,aL,aD,aH,au,sl];omega)
 have c6:=s3.objs (Hm.next+1) (by simp(disch:=omega)only[ay,aN,az,aF,aE,aB,aM,aO,aQ,aP,aL,aD,aH,au,sl];omega)
 simp(disch:=omega)only[sm,sl]at b1 n3 l3 c2 c5 c6
 rw[g2 _ (by omega)]at c2
 simp(disch:=omega)only[sm,sl]at c2
 clear s3
 have Ii:SLr bD 2 H3 v l:=⟨hv.1.ext bD.mono k3.ext,fun a n c ee=>(hv.2 a n c ee).elim .inl fun⟨r,cells,g,t,h1,h2,h3⟩=> .inr ⟨r,cells,g,t,h1,by have:=k3.ag;omega,(k3.objs r h2).trans h3⟩⟩
 refine Du (enc:=bh) (xs:=rs) (g:=295) (first:= #[]) (cap:= #[ptr (Hm.next+1+1) 0])
  (J:=fun rest X=>∃ v f done p,X.objs.get Hm.next=some (.row [v] none true)∧X.objs.get (Hm.next+1)=some (.row [.int .i64 p] none true)∧b8 (H3.next+2) 2 X v done.length (done.flatMap b9) f∧done++ng all p rest=ng all all.ae rs∧(∀x∈rest,qQ all x)∧done.length+rest.length≤rs.length∧0≤p∧p≤1099511627776)
  (R:=fun X=>False) (ex:=[Hm.next,Hm.next+1]) ?_ (by omega) ?_ ?_ (fun _ _=>by kernel_rfl) (fun _ _ _=>by kernel_rfl) ?_ ?_ ?_ ?_ ?_ ?_ ?_ ?_
 ·intro x hx;simp only[wad,wbb,wck]at hx;omega
 ·simp(disch:=omega)only[↓aa,ab,simprocAttr,n3]
 ·exact wap rfl
 ·rintro rest X X' ⟨v,f,done,p,h1,h2,h3,h4⟩ rb pd
  exact⟨v,f,done,p,(pd.objs _ (by omega)).trans h1,(pd.objs _ (by omega)).trans h2,h3.pd pd,h4⟩
 ·rintro rest X X' ⟨v,f,done,p,h1,h2,h3,h4⟩ of
  exact⟨v,f,done,p,(of.objs _ (by omega)).trans h1,(of.objs _ (by omega)).trans h2,h3.Ev of (by omega),h4⟩
 ·intro X X' h;exact h.elim
 ·intro X rb sX
  exact⟨_,none,[],all.ae,(sX.objs _ (by omega)).trans c5,(sX.objs _ (by omega)).trans c6,b8.nil _ _ _,rfl,Oz,by simp,by omega,by omega⟩
 ·intro y I F H1 sH jJ hI hB hy h0
  have hx:∀ x:Nat,x∈[Hm.next,Hm.next+1]→x=Hm.next∨x=Hm.next+1:=fun x h=>by simpa using h
  refine zaH H3 [Hm.next,Hm.next+1] (by omega) (Hm.next+1+1) v l b1 (by omega) (fun h=>by have:=hx _ h;omega) Ii ?_ hr (fun x h=>(hw x h).1) hl (fun x h=>by have:=hx _ h;omega) y I F H1 sH jJ hI hB hy (by rw[hrs];exact h0)
  rintro a n c ee r rfl h
  rcases hv.2 _ n c ee with h1|⟨r',_,_,_,h1,h2,_⟩
  ·cases h1
  ·cases h1
   have:=hx _ h
   simp only at this
   omega
 ·rintro x rest X ⟨sv,f,done,p,h1,h2,h3,h4,h5,h6,h7,h8⟩ rb
  have lX:=rb.lo;have nX:=rb.ag
  have zaI:=h5 x (wW ..)
  obtain⟨um,vV,oJ⟩:=zaI
  have zaJ:=um
  unfold bt at zaJ
  have a2:=rb.objs H.next (by omega) (by simp;omega)
  simp only[bh]
  simp(disch:=omega)only[↓aa,ab,simprocAttr,sa, *]
  refine⟨aA,fun X2 of=>?_⟩
  have o1:=of.next;have o2:=of.lo
  have o3:=of.objs X.next (by omega)
  have o4:=of.objs Hm.next (by omega)
  have o5:=of.objs (Hm.next+1) (by omega)
  have o6:=of.objs H.next (by omega)
  have h3:=(h3.same (aA:aq X _)).Ev of (by omega)
  simp(disch:=omega)only[sm,sl]at o1 o2 o3 o4 o5 o6
  clear of
  have dt:all.stop=all.ae+all.size:=rfl
  have zaK:x.stop=x.ae+x.size:=rfl
  by_cases rE:p<x.ae
  ·rw[ng,wF rE]at h4
   repeat'(first|refine ak (fun _=>?_) (fun _=>?_)|refine aw 7 [Fx,Fx,Fx,Tx,Fx] ?_|((with_reducible show af _ _ _ _ _);refine ao X2 (qO _ ah all (by assumption)) ?_;intro H2 k2 l2 n2 g2 q2;try simp(disch:=omega)only[sm,sl]at l2 n2 g2 q2)|simp(disch:=omega)only[↓aa,ab,simprocAttr,sa, *])
   all_goals try omega
   obtain⟨Hk,rfl⟩:∃ Hk,Hk=H2:=⟨_,rfl⟩
   have s2:aq X2 (Hk.bU H.lo):=aA
   have Ij:=s2.ag
   have p5:=s2.objs Hm.next (by omega);have p6:=s2.objs (Hm.next+1) (by omega);have p7:=s2.objs X.next (by omega)
   simp(disch:=omega)only[sm,sl]at Ij p5 p6 p7
   simp only[wY]at h6
   obtain⟨H9,f9,cK,pM,kz,sw,_⟩:=qK (bytes:=16) (k:=1) (new:=b9 ⟨p,x.ae-p⟩) ((h3.same s2).same (eO (b9 ⟨p,x.ae-p⟩))) (by simp(disch:=omega)only[ay,aN,az,aF,aE,aB,aM,aO,aQ,aP,aL,aD,aH,au,sl];omega) (by simp(disch:=omega)only[ay,aN,az,aF,aE,aB,aM,aO,aQ,aP,aL,aD,aH,au,sl];omega) (by omega) rfl rfl (by simp[eu,kV,cw];omega)
   have y9:Yd (H3.next+2) [Hm.next,Hm.next+1] X2 H9:=((s2.yd (by omega)).trans ((eO (b9 ⟨p,x.ae-p⟩)).yd (by simp(disch:=omega)only[ay,aN,az,aF,aE,aB,aM,aO,aQ,aP,aL,aD,aH,au,sl];omega))).grown kz (wy _)
   have d5:=kz.alone Hm.next [sv] true (by simp(disch:=omega)only[ay,aN,az,aF,aE,aB,aM,aO,aQ,aP,aL,aD,aH,au,sl];omega) (by simp(disch:=omega)only[ay,aN,az,aF,aE,aB,aM,aO,aQ,aP,aL,aD,aH,au,sl, *])
   have d6:=kz.alone (Hm.next+1) [.int .i64 p] true (by simp(disch:=omega)only[ay,aN,az,aF,aE,aB,aM,aO,aQ,aP,aL,aD,aH,au,sl];omega) (by simp(disch:=omega)only[ay,aN,az,aF,aE,aB,aM,aO,aQ,aP,aL,aD,aH,au,sl, *])
   have d7:=kz.alone X.next [.int .i64 x.ae,.int .i64 x.size] true (by simp(disch:=omega)only[ay,aN,az,aF,aE,aB,aM,aO,aQ,aP,aL,aD,aH,au,sl];omega) (by simp(disch:=omega)only[ay,aN,az,aF,aE,aB,aM,aO,aQ,aP,aL,aD,aH,au,sl, *])
   have l9:=kz.lo
   simp(disch:=omega)only[sm,sl]at cK sw l9
   clear kz
   simp only[b9]at cK
   repeat'(first|refine aw 10 [Fx,Fx,Tx,Fx,Fx] ?_|((with_reducible show af _ _ _ _ _);refine ao _ (qO _ ah x (by assumption)) ?_;intro H2 k2 l2 n2 g2 q2;try simp(disch:=omega)only[sm,sl]at l2 n2 g2 q2)|simp(disch:=omega)only[↓aa,ab,simprocAttr,sa,builtin_max,cw,iG,dW,wL,wat,waw,wY,waA,waV,waZ, *])
   all_goals try omega
   rw[n3]at y9 pM
   have s9:aq (H9.setRow Hm.next [Value.slice (some ⟨Hk.next+1,0,none⟩) (done.length+1) (done.length+1)]) (H2.bU H.lo):=Ko.same (Ko.bU (Ko.trans (by rw[←aP];exact Ko.bU (Ko.refl _) _) k2) _) (by simp(disch:=omega)only[↓aa,ab,simprocAttr,sa, *])
   have e9:(done++[(⟨p,x.ae-p⟩:Span)]).flatMap b9=done.flatMap b9++b9 ⟨p,x.ae-p⟩:=by simp
   have e8:(done++[(⟨p,x.ae-p⟩:Span)]).length=done.length+1:=by simp
   simp only[az,aD]at pM
   refine⟨(y9.setRow (by simp) _).trans ((s9.yd (by simp(disch:=omega)only[ay,aN,az,aF,aE,aB,aM,aO,aQ,aP,aL,aD,aH,au,sl];omega)).trans ((Yd.refl _ _ _).setRow (by simp) _)),.inl ⟨_,f9,done++[⟨p,x.ae-p⟩],_,rfl,rfl,?_,by rw[waP];exact h4,fun z hz=>h5 z (wM _ hz),by rw[e8];omega,by split<;>omega,by split<;>omega⟩⟩
   rw[e9,e8]
   exact((pM.setRow (by omega)).same s9).setRow (by omega)
  ·rw[ng,wI rE,wL]at h4
   repeat'(first|refine ak (fun _=>?_) (fun _=>?_)|refine aw 7 [Fx,Fx,Fx,Tx,Fx] ?_|refine aw 10 [Fx,Fx,Tx,Fx,Fx] ?_|((with_reducible show af _ _ _ _ _);(first|refine ao X2 (qO _ ah all (by assumption)) ?_|refine ao X2 (qO _ ah x (by assumption)) ?_);intro H2 k2 l2 n2 g2 q2;try simp(disch:=omega)only[sm,sl]at l2 n2 g2 q2)|simp(disch:=omega)only[↓aa,ab,simprocAttr,sa,builtin_max, *])
   all_goals try omega
   rw[n3]at h3
   have s9:aq X2 (H2.bU H.lo):=aA
   refine⟨(Yd.trans (s9.yd (by omega)) ((Yd.refl _ _ _).setRow (by simp) _)),.inl ⟨sv,f,done,_,rfl,rfl,(h3.same s9).setRow (by omega),h4,fun z hz=>h5 z (wM _ hz),by simp only[wY]at h6;omega,by split<;>omega,by split<;>omega⟩⟩
 ·rintro X ⟨sv,f,done,p,h1,h2,h3,h4,h5,h6,h7,h8⟩ rb
  have lX:=rb.lo;have nX:=rb.ag
  have dX:=rb.vq
  have a2:=rb.objs H.next (by omega) (by simp;omega)
  have dt:all.stop=all.ae+all.size:=rfl
  rw[n3]at dX
  by_cases rE:p<all.ae+all.size
  ·have e4:ng all p []=[⟨p,all.ae+all.size-p⟩]:=wF rE
   rw[e4]at h4
   repeat'(first|refine aw 11 [Fx,Fx,Tx,Fx] ?_|refine aw 12 [Fx,Fx,Fx,Tx,Fx,Fx,Fx,Fx,Fx,Fx] ?_|((with_reducible show af _ _ _ _ _);refine ao X (qO _ ah all (by assumption)) ?_;intro H2 k2 l2 n2 g2 q2;try simp(disch:=omega)only[sm,sl]at l2 n2 g2 q2)|simp(disch:=omega)only[↓aa,ab,simprocAttr,sa, *])
   all_goals try omega
   obtain⟨Hk,rfl⟩:∃ Hk,Hk=H2:=⟨_,rfl⟩
   have s2:aq X (Hk.bU H.lo):=aA
   have Ij:=s2.ag
   have p5:=s2.objs Hm.next (by omega)
   have p6:=s2.objs Hm.next (by omega)
   have p8:=s2.objs (Hm.next+1+1+1) (by omega)
   simp(disch:=omega)only[sm,sl]at Ij p5 p8
   simp only[waA]at h6
   obtain⟨H9,f9,cK,pM,kz,sw,_⟩:=qK (bytes:=16) (k:=1) (new:=b9 ⟨p,all.ae+all.size-p⟩) ((h3.same s2).same (eO (b9 ⟨p,all.ae+all.size-p⟩))) (by simp(disch:=omega)only[ay,aN,az,aF,aE,aB,aM,aO,aQ,aP,aL,aD,aH,au,sl];omega) (by simp(disch:=omega)only[ay,aN,az,aF,aE,aB,aM,aO,aQ,aP,aL,aD,aH,au,sl];omega) (by omega) rfl rfl (by simp[eu,kV,cw];omega)
   have d5:=kz.alone Hm.next [sv] true (by simp(disch:=omega)only[ay,aN,az,aF,aE,aB,aM,aO,aQ,aP,aL,aD,aH,au,sl];omega) (by simp(disch:=omega)only[ay,aN,az,aF,aE,aB,aM,aO,aQ,aP,aL,aD,aH,au,sl,p5,h1])
   have d8:=(kz.below (Hm.next+1+1+1) (by omega)).1
   have kX:=rb.ko k3 (by intro x hx;simp only[wad,wbb,wck]at hx;omega)
   have k9:Ko H H9:=((kX.call s2).newRow (b9 ⟨p,all.ae+all.size-p⟩)).grown kz (by have:=k3.ag;omega)
   have l9:=kz.lo
   simp(disch:=omega)only[sm,sl]at cK sw l9 d8
   clear kz
   simp only[b9]at cK
   simp(disch:=omega)only[↓aa,ab,simprocAttr,sa,cw,iG,dW,wL,wat,waw,wY,waA,waV,waZ, *]
   have e9:(done++[(⟨p,all.ae+all.size-p⟩:Span)]).flatMap b9=done.flatMap b9++b9 ⟨p,all.ae+all.size-p⟩:=by simp
   have e8:(done++[(⟨p,all.ae+all.size-p⟩:Span)]).length=done.length+1:=by simp
   simp only[az,aD]at pM
   rw[←e9,←e8]at pM
   have ho8:=pM.setRow (c:=[Value.slice (some ⟨Hk.next+1,0,none⟩) (done.length+1) (done.length+1)]) (x:=Hm.next) (by omega)
   have hz:=ho8.OA (k:=Hm.next+1+1+1) (lo:=H.lo) (gr:=H9.grps) (by omega) (by rw[e8];omega)
   rw[e8,h4,aF,sw]at hz
   refine⟨_,Be ?_ (by omega),hz,?_⟩
   ·rw[ay,au (by omega)]
    exact d8.trans ((s2.objs _ (by omega)).trans dX)
   ·exact Bv (k9.setRow (by omega) _) (by omega) rfl (by rw[aF,sw])
  ·have e4:ng all p []=[]:=wI rE
   rw[e4,waw]at h4
   repeat'(first|refine aw 11 [Fx,Fx,Tx,Fx] ?_|((with_reducible show af _ _ _ _ _);refine ao X (qO _ ah all (by assumption)) ?_;intro H2 k2 l2 n2 g2 q2;try simp(disch:=omega)only[sm,sl]at l2 n2 g2 q2)|simp(disch:=omega)only[↓aa,ab,simprocAttr,sa, *])
   all_goals try omega
   have s2:aq X (H2.bU H.lo):=aA
   have kX:=rb.ko k3 (by intro x hx;simp only[wad,wbb,wck]at hx;omega)
   refine⟨_,Be ((s2.objs _ (by omega)).trans dX) (by omega),?_,?_⟩
   ·rw[←h4]
    exact(h3.same s2).OA (by omega) (by simp only[waA]at h6;omega)
   ·exact Bv (X:=H2.bU H.lo) (kX.call s2) (by omega) rfl rfl
 ·intro X h;exact h.elim
theorem zaL{a b:Span}:a=b↔a.ae=b.ae∧a.size=b.size:=by cases a;cases b;simp
theorem zaM{α:Type}{a b:List α}{i:Nat}(h:a.take i=b.take i)(h1:i<a.length)(h2:i<b.length)(e:a[i]=b[i]):a.take (i+1)=b.take (i+1):=by
 rw[wR,wR,h,wj h1,wj h2,e]
theorem Ik(H:Heap)(an:H.lo≤H.next)(va vb:Value)(la lb:List Span)(ha:SL bD 2 H va la)(hb:SL bD 2 H vb lb):af E (aK 40) [va,vb] H fun r H'=>r= .bool (decide (la=lb))∧aq H H':=by
 obtain⟨a,ca,rfl,⟨_,ft⟩,bs⟩:=ha
 obtain⟨b,cb,rfl,⟨_,me⟩,fh⟩:=hb
 refine aV Tryz.f40 ?_
 simp only[Tryz.f40]
 repeat'(first|refine ak (fun _=>?_) (fun _=>?_)|apply bw|simp(disch:=omega)only[↓aa,ab,simprocAttr,sa, *])
 case refine_2=>exact⟨eZ (by simp only[wG,wa5];rintro rfl;omega),aA⟩
 refine bP H [0,1,12,13] (fun T1 H1 u1 k1 n1 l1 g1=>?_) aj
 try simp(disch:=omega)only[sm,sl]at n1 l1 g1
 simp only[sq,simprocAttr]at u1
 refine bL kq (fun nn T X=>∃ i:Nat,nn=la.length-i∧(T.get 13=some (.int .i64 i))∧(T.get 0=T1.get 0∧T.get 1=T1.get 1∧T.get 12=T1.get 12)∧Ko H1 X∧X.lo=H1.lo∧(i≤la.length∧la.take i=lb.take i)) ?_ ?_
 ·refine⟨_,0,rfl,?_,?_,Ko.refl _,rfl,⟨wJ _,rfl⟩⟩<;>exact aJ
 rintro nn dA X1 ⟨i,rfl,m1,w1,kx1,eQ,⟨hi,he⟩⟩ Qs hQ aG ai
 have bz:=k1.trans kx1;have dZ:=kx1.ag;have ed:=kx1.objs
 by_cases hlt:i<la.length
 ·obtain⟨r,o,cells,gg,tt,part,rfl,hr,aC,aR,rfl⟩:=bs i la[i] (by simp)
  obtain⟨r',o',cells',Ie,Ig,Bh,rfl,cp,ky,ss,rfl⟩:=fh i lb[i] (by simp)
  have a1:=bn hlt
  have a2:at? (i:Int) lb.length=some i:=bn (by omega)
  have e1:=bz.objs r hr
  have e2:=bz.objs r' cp
  repeat'(first|refine ak (fun _=>?_) (fun _=>?_)|apply bw|refine cO (fun _=>?_) (fun _=>?_)|refine aw 6 [Fx,Fx,Fx,Fx,Fx,Fx,Fx,Fx,Fx] ?_|((with_reducible show Qs _ _ _ _ _);first|refine ai _ _ _ _ ?_|refine aG _ _ _ ?_)|simp(disch:=omega)only[↓aa,ab,simprocAttr,sa, *])
  case refine_1=>
   rename_i hx
   simp only[wA,wbO]at hx
   have mF:la[i]=lb[i]:=by rw[zaL];exact hx
   refine hQ _ _ _ ?_ ⟨i+1,rfl,?_,?_,?_,?_,⟨by omega,zaM he hlt (by omega) mF⟩⟩<;>exact aJ
  case refine_2=>
   rename_i hx
   refine⟨eZ ?_,aA⟩
   simp only[wG,wa5]
   rintro rfl
   simp at hx
  omega
 have dU:i=la.length:=by omega
 repeat'(first|refine ak (fun _=>?_) (fun _=>?_)|refine aw 6 [Fx,Fx,Fx,Fx,Fx,Fx,Fx,Fx,Fx] ?_|((with_reducible show Qs _ _ _ _ _);refine ai _ _ _ _ ?_)|simp(disch:=omega)only[↓aa,ab,simprocAttr,sa, *])
 ·omega
 ·refine⟨eZ ?_,aA⟩
  simp only[wbh]
  rw[dU,waj,wZ (by omega)]at he
  exact he
theorem Ew{cells:List Value}{k:Nat}{a b:Value}(h:cut cells k 2=some [a,b]):cells[k]? =some a∧cells[k+1]? =some b:=by
 rw[du]at h
 split at h
 ·simp only[wi]at h
  have h0:=congrArg (fun l:List Value=>l[0]?) h
  have h1:=congrArg (fun l:List Value=>l[1]?) h
  simp only[wab,wae]at h0 h1
  exact⟨by simpa using h0,by simpa using h1⟩
 ·cases h
def fG(all:Span):Option Span→List Span→Bool
 |_,[]=>true
 |p,x::l=>decide (lB x all)&&(match p with|none=>true|some y=>decide (y.ae+y.size≤x.ae))&&fG all (some x) l
def preB(p:Option Span)(x:Span):Bool:=match p with
 |none=>true
 |some y=>decide (y.ae+y.size≤x.ae)
theorem vW(all:Span)(p:Option Span)(x:Span)(l:List Span):fG all p (x::l)=(decide (lB x all)&&preB p x&&fG all (some x) l):=by cases p<;>rfl
theorem uo{all:Span}:∀ {l:List Span} {p:Option Span},fG all p l=true→(∀x∈l,qQ all x)∧sr l∧∀ y,p=some y→∀ x∈l,y.ae+y.size≤x.ae
 |[],p,_=>⟨fun x h=>(by cases h),fun i j x y _ h=>(by simp at h),fun y _ x h=>(by cases h)⟩
 |x::l,p,h=>by
  simp only[fG,wA,wT]at h
  obtain⟨⟨h1,h2⟩,h3⟩:=h
  obtain⟨q1,q2,q3⟩:=uo h3
  have hx:qQ all x:=⟨h1.1,h1.2.2.1,h1.2.2.2⟩
  have hm:=h1.1
  unfold bt at hm
  refine⟨fun z hz=>?_,?_,fun y hy z hz=>?_⟩
  ·rcases wad.1 hz with rfl|hz
   ·exact hx
   ·exact q1 z hz
  ·intro i j a b kb ha hb
   cases j with
   |zero=>omega
   |succ j=>
    have sd:l[j]? =some b:=by simpa using hb
    cases i with
    |zero=>
     simp only[wQ,wi]at ha
     subst ha
     have:=q3 x rfl b (wag sd)
     omega
    |succ i=>exact q2 i j a b (by omega) (by simpa using ha) sd
  ·subst hy
   simp only[wT]at h2
   rcases wad.1 hz with rfl|hz
   ·exact h2
   ·have:=q3 x rfl z hz
    omega
def jK(all:Span)(l free:List Span):Bool:=fG all none l&&decide (su all l=free)
theorem OB(H:Heap)(an:H.lo≤H.next)(all:Span)(v w:Value)(l free:List Span)(hv:SLr bD 2 H v l)(hw:SLr bD 2 H w free)(hl:l.length≤100000):af E (aK 217) [bh all,v,w] H fun r H'=>r= .bool (jK all l free)∧aq H H':=by
 have ij:=hv
 obtain⟨⟨a,ca,rfl,⟨_,ft⟩,bs⟩,_⟩:=hv
 refine aV Tryz.f217 ?_
 simp only[Tryz.f217]
 simp only[bh]
 simp(disch:=omega)only[↓aa,ab,simprocAttr,sa, *]
 refine bP H [1,2,3,9,10,11] (fun T1 H1 u1 k1 n1 l1 g1=>?_) aj
 try simp(disch:=omega)only[sm,sl]at n1 l1 g1
 simp only[sq,simprocAttr]at u1
 refine bL kq (fun nn T X=>∃ i:Nat,nn=l.length-i∧(T.get 11=some (.int .i64 i))∧(T.get 1=T1.get 1∧T.get 2=T1.get 2∧T.get 3=T1.get 3∧T.get 9=T1.get 9∧T.get 10=T1.get 10)∧Ko H1 X∧X.lo=H1.lo∧(i≤l.length∧fG all none l=fG all (if i=0 then none else l[i-1]?) (l.drop i)∧(∀x,0<i→l[i-1]? =some x→bt x))) ?_ ?_
 ·refine⟨_,0,rfl,?_,?_,Ko.refl _,rfl,⟨wJ _,rfl,fun x h=>absurd h (by omega)⟩⟩<;>exact aJ
 rintro nn dA X1 ⟨i,rfl,m1,w1,kx1,eQ,⟨hi,hE,hP⟩⟩ Qs hQ aG ai
 have bz:=k1.trans kx1;have dZ:=kx1.ag;have ed:=kx1.objs
 by_cases hlt:i<l.length
 ·obtain⟨r,o,cells,gg,tt,part,rfl,hr,aC,aR,rfl⟩:=bs i l[i] (by simp)
  have a1:=bn hlt
  have e1:=bz.objs r hr
  rw[wX hlt,vW]at hE
  by_cases yV:lB l[i] all
  ·have hmi:=yV.1
   unfold bt at hmi
   by_cases h0:i=0
   ·subst h0
    have ziR:cut cells o 2=some [.int .i64 l[0].ae,.int .i64 l[0].size]:=by rw[wb2,waX]at aR;exact aR
    repeat'(first|refine ak (fun _=>?_) (fun _=>?_)|refine aw 4 [Fx,Fx,Fx,Fx,Fx,Fx,Fx,Fx,Fx,Fx,Fx,Fx,Fx,Fx,Fx,Fx,Fx,Fx,Fx,Fx,Fx,Fx,Fx,Fx,Fx,Fx] ?_|((with_reducible show af _ _ _ _ _);refine ao H1 (El _ ah l[0] all) ?_;intro H2 k2 l2 n2 g2 q2;try simp(disch:=omega)only[sm,sl]at l2 n2 g2 q2)|((with_reducible show Qs _ _ _ _ _);refine ai _ _ _ _ ?_)|simp(disch:=omega)only[↓aa,ab,simprocAttr,sa,wcg, *])
    all_goals try omega
    have hn:fG all none l=fG all (some l[0]) (l.drop 1):=by rw[hE];simp[yV,preB]
    refine hQ _ _ _ ?_ ⟨1,rfl,?_,?_,?_,?_,⟨by omega,by rw[hn,wI (by omega),wj (show 1-1<l.length from hlt)],fun x _ hx=>by rw[wj (show 1-1<l.length from hlt)]at hx;cases hx;exact yV.1⟩⟩<;>exact aJ
   ·obtain⟨r',o',cells',Ie,Ig,Bh,e,cp,ky,ss,rfl⟩:=bs (i-1) l[i-1] (by simp)
    cases e
    rw[aC]at ky
    cases ky
    have a2:at? ((i:Int)-1) l.length=some (i-1):=by rw[show(i:Int)-1=((i-1:Nat):Int) by omega];exact bn (by omega)
    have a3:((i:Int)-1).toNat=i-1:=by omega
    obtain⟨f1,f2⟩:=Ew ss
    have hmp:=hP l[i-1] (by omega) (by simp)
    unfold bt at hmp
    by_cases Ey:l[i-1].ae+l[i-1].size≤l[i].ae
    ·repeat'(first|refine ak (fun _=>?_) (fun _=>?_)|refine aw 4 [Fx,Fx,Fx,Fx,Fx,Fx,Fx,Fx,Fx,Fx,Fx,Fx,Fx,Fx,Fx,Fx,Fx,Fx,Fx,Fx,Fx,Fx,Fx,Fx,Fx,Fx] ?_|((with_reducible show af _ _ _ _ _);refine ao H1 (El _ ah l[i] all) ?_;intro H2 k2 l2 n2 g2 q2;try simp(disch:=omega)only[sm,sl]at l2 n2 g2 q2)|((with_reducible show Qs _ _ _ _ _);first|refine ai _ _ _ _ ?_|refine aG _ _ _ ?_)|simp(disch:=omega)only[↓aa,ab,simprocAttr,sa, *])
     all_goals try omega
     have hn:fG all none l=fG all (some l[i]) (l.drop (i+1)):=by
      rw[hE,wI h0,wj (by omega)]
      simp[yV,preB,Ey]
     refine hQ _ _ _ ?_ ⟨i+1,rfl,?_,?_,?_,?_,⟨by omega,by rw[hn,wI (by omega),wj (show i+1-1<l.length from hlt)];rfl,fun x _ hx=>by rw[wj (show i+1-1<l.length from hlt)]at hx;cases hx;exact yV.1⟩⟩<;>exact aJ
    ·repeat'(first|refine ak (fun _=>?_) (fun _=>?_)|refine aw 4 [Fx,Fx,Fx,Fx,Fx,Fx,Fx,Fx,Fx,Fx,Fx,Fx,Fx,Fx,Fx,Fx,Fx,Fx,Fx,Fx,Fx,Fx,Fx,Fx,Fx,Fx] ?_|((with_reducible show af _ _ _ _ _);refine ao H1 (El _ ah l[i] all) ?_;intro H2 k2 l2 n2 g2 q2;try simp(disch:=omega)only[sm,sl]at l2 n2 g2 q2)|((with_reducible show Qs _ _ _ _ _);first|refine ai _ _ _ _ ?_|refine aG _ _ _ ?_)|simp(disch:=omega)only[↓aa,ab,simprocAttr,sa, *])
     all_goals try omega
     have hn:fG all none l=false:=by
      rw[hE,wI h0,wj (by omega)]
      simp[preB,Ey]
     have hz:jK all l free=false:=by simp[jK,hn]
     rw[hz]
     exact⟨rfl,aA⟩
  ·repeat'(first|refine ak (fun _=>?_) (fun _=>?_)|refine aw 4 [Fx,Fx,Fx,Fx,Fx,Fx,Fx,Fx,Fx,Fx,Fx,Fx,Fx,Fx,Fx,Fx,Fx,Fx,Fx,Fx,Fx,Fx,Fx,Fx,Fx,Fx] ?_|((with_reducible show af _ _ _ _ _);refine ao H1 (El _ ah l[i] all) ?_;intro H2 k2 l2 n2 g2 q2;try simp(disch:=omega)only[sm,sl]at l2 n2 g2 q2)|((with_reducible show Qs _ _ _ _ _);first|refine ai _ _ _ _ ?_|refine aG _ _ _ ?_)|simp(disch:=omega)only[↓aa,ab,simprocAttr,sa, *])
   all_goals try omega
   have hn:fG all none l=false:=by rw[hE];simp[yV]
   have hz:jK all l free=false:=by simp[jK,hn]
   rw[hz]
   exact⟨rfl,aA⟩
 ·repeat'(first|refine ak (fun _=>?_) (fun _=>?_)|((with_reducible show Qs _ _ _ _ _);refine ai _ _ _ _ ?_)|simp(disch:=omega)only[↓aa,ab,simprocAttr,sa, *])
  all_goals try omega
  have hn:fG all none l=true:=by rw[hE,waO (by omega)];cases(if i=0 then none else l[i-1]?)<;>rfl
  obtain⟨q1,q2,_⟩:=uo hn
  have hz:jK all l free=decide (su all l=free):=by simp[jK,hn]
  rw[hz]
  refine(zaF X1 (by omega) all _ l (ij.mono bD.mono (Ko.same bz (by simp(disch:=omega)only[↓aa,ab,simprocAttr,sa, *]))) q2 q1 hl).mono ?_
  rintro r H4 ⟨h4,s4⟩
  refine(Ik H4 (by have:=s4.lo;have:=s4.ag;omega) r w _ free h4.1 ((hw.mono bD.mono (Ko.same bz (by simp(disch:=omega)only[↓aa,ab,simprocAttr,sa, *]))).mono bD.mono s4).1).mono ?_
  rintro r5 H5 ⟨rfl,s5⟩
  exact⟨rfl,(Ko.same bz (by simp(disch:=omega)only[↓aa,ab,simprocAttr,sa, *])).trans (s4.trans s5)⟩
theorem Ar.over{H:Heap}{a rw g:Nat}{ws yQ:List Nat}(h:Ar H a rw g ws)(hl:yQ.length=ws.length)(hu:∀ w∈yQ,w<2^64):Ar (H.Ak rw g 1 (yQ.map wV)) a rw g yQ where
 box:=by rw[KP,au h.ne,hl];exact h.box
 row:=by rw[KP,cr rfl];rfl
 bK:=by rw[SE,cr rfl];rfl
 la:=h.la
 lw:=h.lw
 lg:=h.lg
 ne:=h.ne
 u64:=hu
 len:=by rw[hl];exact h.len
def fW(ks:List Int):List (Value×Value):=ks.map fun a=>(.int .i64 a,.bool true)
def oN(ks:List Int)(k:Int):List Int:=if k∈ks then ks else ks++[k]
theorem Il{k:Int}:∀ {ks:List Int} (i:Nat),k∈ks→∃ j,findV (.int .i64 k) (fW ks) i=some (some (i+j,.bool true))∧setVal (.bool true) (fW ks) j=fW ks
 |a::ks,i,h=>by
  by_cases e:k=a
  ·subst e
   exact⟨0,by simp[findV,fW,keyEq,sameKind,gF],rfl⟩
  ·have h':k∈ks:=(wad.1 h).resolve_left e
   obtain⟨j,h1,h2⟩:=Il (i+1) h'
   refine⟨j+1,?_,?_⟩
   ·have:keyEq (.int .i64 k) (.int .i64 a)=some false:=by simp[keyEq,sameKind,gF,e]
    simp only[fW,wbk,findV,this,wo]
    rw[show i+(j+1)=i+1+j by omega]
    exact h1
   ·simp only[fW,wbk,setVal]
    exact congrArg _ h2
theorem Im{k:Int}:∀ {ks:List Int} (i:Nat),k∉ks→findV (.int .i64 k) (fW ks) i=some none
 |[],_,_=>rfl
 |a::ks,i,h=>by
  have e:k≠a:=fun e=>h (e▸wW ..)
  have:keyEq (.int .i64 k) (.int .i64 a)=some false:=by simp[keyEq,sameKind,gF,e]
  simp only[fW,wbk,findV,this,wo]
  exact Im (i+1) fun h'=>h (wM _ h')
def sy(H:Heap)(ob:Option AObj)(r:Nat)(k v:Value):Option Heap:=
 match ob with
 |some (.map es)=>(findV k es 0).bind fun f=>
  match f with
  |some (i,_)=>H.pv r (setVal v es i)
  |none=>H.pv r (es++[(k,v)])
 |_=>none
theorem OC(H:Heap)(r:Nat)(k:Int)(v:Value):mapUpdateV E H 168 (.map (some r)) (.int .i64 k) v=sy H (H.objs.get r) r (.int .i64 k) v:=kq
def sC(ob:Option AObj)(k z:Value):Option Value:=
 (match ob with
  |some (.map es)=>some es
  |some (.lh es _)=>some (es.map Prod.fst)
  |_=>none).bind fun es=>(findV k es 0).bind fun f=>
     match f with
     |some (_,v)=>some v
     |none=>some z
theorem zaN(H:Heap)(r:Nat)(k:Int):lookupV E H 168 (.map (some r)) (.int .i64 k) false=sC (H.objs.get r) (.int .i64 k) (.bool false):=kq
theorem zaO(ks:List Int)(k:Int):sC (some (.map (fW ks))) (.int .i64 k) (.bool false)=some (.bool (decide (k∈ks))):=by
 rw[sC]
 by_cases hk:k∈ks
 ·obtain⟨j,h1,h2⟩:=Il 0 hk
  simp only[wo,h1,hk,decide_true]
 ·simp only[wo,Im 0 hk,hk,decide_false]
theorem OD{H:Heap}{r:Nat}(ks:List Int)(hl:H.lo≤r)(k:Int):sy H (some (.map (fW ks))) r (.int .i64 k) (.bool true)=some (H.setObj r (.map (fW (oN ks k)))):=by
 rw[sy]
 have hb:(!Nat.ble H.lo r)=false:=by simpa using hl
 unfold oN
 by_cases hk:k∈ks
 ·obtain⟨j,h1,h2⟩:=Il 0 hk
  rw[wF hk,h1]
  simp only[wo,wau,h2,Heap.pv,hb,wS,Tr.force_eq,Heap.setObj]
 ·rw[wI hk,Im 0 hk]
  have e:fW ks++[(.int .i64 k,.bool true)]=fW (ks++[k]):=by simp[fW]
  simp only[wo,Heap.pv,hb,wS,Tr.force_eq,Heap.setObj,e]
theorem zaP(H:Heap)(r:Nat):Bm E H 168 (.map (some r))=(match gOf H (some r)with
  |some p=>some (.lJ p.1 p.2 [] p.2)
  |none=>(entriesOf H (some r)).bind fun es=>some (.iter (some r) es.length .start)):=kq
theorem zaQ{T:Tr Value}{H:Heap}{K:Tok→Value→Heap→Prop}(x:Operand):OP .go E T (.entry x) H K=optP .go (ev T x) fun t v=>optP t (entryV H v) fun t v=>K t v H:=by
 rw[fO fun _=>rfl];simp only[exOp,fb,fP,optP]
theorem zaR{H:Heap}{r m n i:Nat}{es:List (Value×Value)}{e:Value×Value}(h:H.objs.get r=some (.iter (some m) n (.told i)))(hm:H.objs.get m=some (.map es))(hn:es.length=n)(he:es[i]? =some e):entryV H (ptr r 0)=some (.tuple #[e.1,e.2]):=by
 simp only[entryV,ptr,h,entriesOf,hm,wo,hn,he]
 simp
structure Slot where
 used:Bool
 gen:Int
 word:Nat
 deriving DecidableEq
def qR(s:Slot):List Value:=[.bool s.used,.int .i64 s.gen,.int .u64 s.word]
def qS:Heap→List Value→Slot→Prop:=fun _ part x=>part=qR x
theorem qS.mono:oj qS:=fun _ _ _ _ _ h=>h
def oO(g:Int):Bool:=decide (0≤g∧g<1099511627776)
theorem zaS(H:Heap)(an:H.lo≤H.next)(u:Bool)(gn w:Int):af E (aK 287) [.agg #[.bool u,.int .i64 gn,.int .u64 w]] H fun r H'=>r= .bool (oO gn)∧aq H H':=by
 refine aV Tryz.f287 ?_
 simp only[Tryz.f287]
 repeat'(first|(apply ak<;>intro)|simp(disch:=omega)only[↓aa,ab,simprocAttr,sa, *])
 all_goals((with_reducible show _∧_);exact⟨eZ (by simp only[wT,wG,wbh,wa5,oO];first|omega|(simp[*]<;>omega)),aA⟩)
def qT(h:Hd):Bool:= !h.mark&&decide (h.fu=0)
theorem yW(H:Heap)(an:H.lo≤H.next)(h:Hd):af E (aK 240) [bO h] H fun r H'=>r= .bool (qT h)∧aq H H':=by
 refine aV Tryz.f240 ?_
 simp only[Tryz.f240]
 simp only[bO]
 cases hm:h.mark
 all_goals(repeat' simp(disch:=omega)only[↓aa,ab,simprocAttr,sa, *])
 all_goals(first|(with_reducible exact aA)|((with_reducible show _∧_);exact⟨by first|rfl|(simp[qT, *]<;>omega),aA⟩))
end Go.AM
