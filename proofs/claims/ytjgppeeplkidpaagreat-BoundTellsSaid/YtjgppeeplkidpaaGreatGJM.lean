/-
  Walks over letters of the functions that the law reaches; written small by a program of mine.
-/
import Derived.Test.YtjgppeeplkidpaaGreatGYK
import Derived.Test.YtjgppeeplkidpaaGreatGC17
import Derived.Test.YtjgppeeplkidpaaGreatGKA
import Derived.Test.YtjgppeeplkidpaaGreatGV8
set_option linter.unusedVariables false
set_option linter.unusedSectionVars false
namespace Go.AM
attribute [local instance] fnMaps
open Go Go.Proofs
set_option maxRecDepth 100000
set_option maxHeartbeats 4000000
set_option linter.unusedSimpArgs false
theorem zbw(H:Heap)(l c:Nat):makeSliceV E H 90 (.int .i64 (.ofNat l)) (.int .i64 (.ofNat c))=bif Nat.ble l c&&Nat.ble c 1000000000&&Nat.ble (c*1) 10000000000&& !Nat.beq 1 0&&Nat.beq 1 1 then some (.slice (some ⟨H.next,0,none⟩) l c,H.newRow (dr [Value.bool false] c))else none:=kq
theorem Pr:∀ n,dr [Value.bool false] n=pJ n []
 |0=>rfl
 |n+1=>by
  rw[iN,Pr n]
  unfold pJ
  rw[List.range_succ_eq_map,wbk,List.map_map]
  rfl
theorem zbx(H:Heap)(n:Nat)(h:n≤1000000):makeSliceV E H 90 (.int .i64 (n:Int)) (.int .i64 (n:Int))=some (.slice (some ⟨H.next,0,none⟩) n n,H.newRow (pJ n [])):=by
 have e:=zbw H n n
 rw[Pr]at e
 refine wE e ?_
 rw[wP (wy n),wP (show n≤1000000000 by omega),wP (show n*1≤10000000000 by omega)]
 rfl
theorem zby(H:Heap)(aj:H.lo≤H.next){x y:Value}{g:Gr}(hG:fD H x y g)(hn:g.nodes.length≤1000000):
  af E (aC 207) [.agg #[x,y],.int .i64 1048576,.int .i64 1] H fun r H'=>∃ p mt mp,r=ptr p 0∧PM H H' p mt mp x y g [] 0:=by
 obtain⟨⟨na,nc,rfl,⟨_,pN⟩,bJ⟩,_⟩:=hG.nodes
 obtain⟨⟨ra,rc,rfl,_⟩,_⟩:=hG.roots
 have NO:=fun X=>zbx X g.nodes.length hn
 refine aQ Tryz.f207 ?_
 simp only[Tryz.f207]
 repeat'(first|refine az 1 [Fx,Fx,Fx,Fx,Fx,Fx,Fx,Fx,Fx,Fx,Fx] ?_|simp(disch:=omega)only[↓aa,ab,simprocAttr,sa,sI, *])
 all_goals try omega
 refine⟨H.next+1+1+1,H.next+1,H.next+1+1,rfl,0,by omega,by omega,.slice none 0 0,.slice none 0 0,.slice none 0 0,0,none,none,none,none,[],[],
  ⟨bL,by simp(disch:=omega)only[sm,sl,sI],⟨by omega,by simp(disch:=omega)only[sm,sl,sI];omega⟩,⟨by omega,by simp(disch:=omega)only[sm,sl,sI];omega⟩,⟨by omega,by simp(disch:=omega)only[sm,sl,sI];omega⟩,by omega,?_,?_,?_,OS.nil _ _ _,OS.nil _ _ _,OS.nil _ _ _,.inl rfl,.inl rfl,.inl rfl,OW.nil _ _ _ _ _,.inl rfl,.inl rfl,.inl rfl⟩,by omega,by simp,fun e he=>by cases he⟩
 ·simp(disch:=omega)only[sm,sl,sI]
  rfl
 ·simp(disch:=omega)only[sm,sl,sI]
 ·simp(disch:=omega)only[sm,sl,sI]
theorem zbz(H0 H:Heap)(aj:H0.lo≤H0.next){x y:Value}{g:Gr}(hG:fD H0 x y g)(hg:gP g)(hn:g.nodes.length≤1000000)(gi:g.roots.length≤100000){p mt mp:Nat}(hP:PF H0 H p mt mp x y g [] 0 0 W0):
  af E (aC 249) [ptr p 0] H fun r H'=>r= .tuple #[]∧∃ l,gM g l∧PF H0 H' p mt mp x y g l 0 0 W0:=by
 have Iu:=hG.roots
 have mu:=hG
 obtain⟨⟨na,nc,rfl,⟨_,pN⟩,bJ⟩,_⟩:=hG.nodes
 obtain⟨⟨ra,rc,rfl,_⟩,_⟩:=hG.roots
 have yK:=hP.ph
 have jc:=yK.ko.ag
 have iq:=yK.lo
 have aG:∃ c2 c3 c4 c5 c6 c7 c8 c9 Ip Iq Ir,H.objs.get p=some (.row [.slice na g.nodes.length nc,.slice ra g.roots.length rc,c2,c3,c4,c5,c6,c7,c8,c9,Ip,Iq,Ir] none true):=by
  obtain⟨_,_,_,_,_,_,_,_,_,_,hB,_⟩:=hP
  exact⟨_,_,_,_,_,_,_,_,_,_,_,hB.row⟩
 obtain⟨_,_,_,_,_,_,_,_,_,_,_,e0⟩:=aG
 refine aQ Tryz.f249 ?_
 simp only[Tryz.f249]
 simp(disch:=omega)only[↓aa,ab,simprocAttr,sa,sI, *]
 all_goals try omega
 refine af.mono (zbt H0 _ aj mu hg hn hP _ _ Iu hg.root gi (Dn.first g)) ?_
 rintro _ Y ⟨rfl,l,hl,hY⟩
 have hy:=hY.ph
 have MC:=hy.ko.ag
 have yb:=hy.lo
 have hy3:=hy.p2
 have Ps:=hY
 obtain⟨sv,bv,lv,top,gs,gb,gl,gw,bc,es,hB,t1,t2,hK⟩:=hY
 have dW:=hB.row
 repeat'(first|((with_reducible show af _ _ _ _ _);refine ak Y (zbA _ ah (by omega) dW) ?_;intro H2 k2 l2 n2 g2 q2;try simp(disch:=omega)only[sm,sl,sI]at l2 n2 g2 q2)|simp(disch:=omega)only[↓aa,ab,simprocAttr,sa,sI, *])
 all_goals try omega
 refine bC H2 [0,2,3] (fun T5 H5 u5 j5 n5 l5 g5=>?_) bL
 try simp(disch:=omega)only[sm,sl,sI]at n5 l5 g5
 simp only[sq,simprocAttr]at u5
 refine bt kq (fun nn T X=>nn=0∧(T.get 2=some (.int .i64 0)∧T.get 3=some (.bool false))∧(T.get 0=T5.get 0)∧True∧True∧(Ko Y X∧X.lo=Y.lo)) ?_ ?_
 ·refine⟨_,rfl,?_,?_,trivial,trivial,k2.trans j5,by omega⟩<;>exact ay
 rintro nn iB X5 ⟨rfl,m5,w5,_,_,fM,Eg⟩ Qs hQ aD ai
 repeat'(first|((with_reducible show Qs _ _ _ _ _);refine ai _ _ _ _ ?_)|simp(disch:=omega)only[↓aa,ab,simprocAttr,sa,sI, *])
 all_goals first|exact⟨l,hl,Ps.go fM Eg⟩|exact⟨rfl,l,hl,Ps.go fM Eg⟩|trace_state
theorem zbB(H0 H:Heap)(aj:H0.lo≤H0.next){x y:Value}{g:Gr}(hG:fD H0 x y g)(hg:gP g)(hn:g.nodes.length≤1000000)(gi:g.roots.length≤100000){p mt mp:Nat}(hP:PF H0 H p mt mp x y g [] 0 0 W0):
  af E (aC 208) [ptr p 0,.int .i64 1] H fun r H'=>r= .tuple #[]∧∃ l,gM g l∧PF H0 H' p mt mp x y g l 0 0 W0:=by
 have h:=hP.ph
 have Ed:H.lo≤H.next:=by
  have:=h.ko.ag
  rw[h.lo];omega
 refine aQ Tryz.f208 ?_
 simp only[Tryz.f208]
 simp(disch:=omega)only[↓aa,ab,simprocAttr,sa,sI, *]
 all_goals try omega
 refine af.mono (zbz H0 _ aj hG hg hn gi hP) ?_
 rintro _ Y ⟨rfl,hY⟩
 simp(disch:=omega)only[↓aa,ab,simprocAttr,sa,sI, *]
 all_goals first|exact⟨rfl,hY⟩|exact hY|trace_state
def dh(l:List Nat):List Int:=l.map Int.ofNat
theorem zbC(l:List Nat):l.map Bb=(dh l).map db:=by
 unfold dh
 rw[List.map_map]
 rfl
theorem OS.Eh{b b' z n:Nat}{H:Heap}{v:Value}{cs:List Value}{go:Option Nat}(h:OS b z H v n cs go)(hb:b'≤b):OS b' z H v n cs go:=by
 cases go with
 |none=>exact h
 |some g=>
  obtain⟨r,cap,full,aS,h1,h2,h3,h4,h5,h6,h7,h8,h9,aY,aV,bB⟩:=h
  exact⟨r,cap,full,aS,h1,h2,h3,h4,h5,h6,by omega,h8,by omega,aY,fun x hx=>⟨by have:=(aV x hx).1;omega,(aV x hx).2⟩,bB⟩
def Ei(b:Nat)(H:Heap)(v:Value)(l:List Nat):Prop:=∃ go,OS b 1 H v l.length ((dh l).map db) go
theorem zbD(H:Heap)(aj:H.lo≤H.next){x y:Value}{g:Gr}(hG:fD H x y g)(hg:gP g)(hn:g.nodes.length≤1000000)(gi:g.roots.length≤100000):
  af E (aC 145) [.agg #[x,y],.int .i64 1048576,.int .i64 1,.int .i64 1] H fun r H'=>(∃v w l,r= .tuple #[v,w,.int .i64 0]∧gM g l∧Ei H.next H' v l)∧aq H H':=by
 have c1:=fun(X:Heap) (hx:X.lo≤X.next) (k:Ko H X)=>zbE X hx (hG.ko k) hg
 have c2:=fun(X:Heap) (hx:X.lo≤X.next) (k:Ko H X)=>zby X hx (hG.ko k) hn
 have mu:=hG
 obtain⟨⟨na,nc,rfl,⟨_,pN⟩,bJ⟩,_⟩:=hG.nodes
 obtain⟨⟨ra,rc,rfl,_⟩,_⟩:=hG.roots
 refine aQ Tryz.f145 ?_
 simp only[Tryz.f145]
 repeat'(first|((with_reducible show af _ _ _ _ _);refine ak H (c1 _ ah aw) ?_;intro H2 k2 l2 n2 g2 q2;try simp(disch:=omega)only[sm,sl,sI]at l2 n2 g2 q2)|simp(disch:=omega)only[↓aa,ab,simprocAttr,sa,sI, *])
 all_goals try omega
 refine af.mono (c2 _ (by omega) k2) ?_
 rintro _ Y ⟨p,mt,mp,rfl,f0,hf1,hf2,hY⟩
 have je:f0=0:=by omega
 subst je
 refine af.mono (zbB H2 _ (by omega) (mu.ko k2) hg hn gi hY) ?_
 rintro _ Z ⟨rfl,l,hl,hZ⟩
 obtain⟨sv,bv,lv,top,gs,gb,gl,gw,bc,es,hB, -⟩:=hZ
 have hR:Ei H.next Z sv l:=⟨gs,by
  have h1:=hB.sm
  rw[zbC]at h1
  exact h1.Eh (by omega)⟩
 obtain⟨jS,sk,rfl⟩:=yI hB.sm
 obtain⟨ba,bk,rfl⟩:=yI hB.bg
 obtain⟨ka,kk,rfl⟩:=yI hB.lk
 have e1:=hB.row
 have hk:=k2.trans hB.ko
 have Ed:=hB.lo
 unfold uD at e1
 clear hB c1 c2
 repeat'(first|refine az 7 [Fx,Fx,Fx,Fx,Fx,Fx,Fx,Fx,Fx,Fx,Fx] ?_|simp(disch:=omega)only[↓aa,ab,simprocAttr,sa,sI, *])
 all_goals try omega
 exact⟨⟨_,_,l,rfl,hl,hR⟩,hk.same (by omega)⟩
theorem zbF(H:Heap)(aj:H.lo≤H.next){x y:Value}{g:Gr}(hG:fD H x y g)(hg:gP g)(hn:g.nodes.length≤1000000)(gi:g.roots.length≤100000):
  af E (aC 106) [.agg #[x,y],.int .i64 1] H fun r H'=>(∃v l,r= .tuple #[v,.int .i64 0]∧gM g l∧Ei H.next H' v l)∧aq H H':=by
 have c1:=fun(X:Heap) (hx:X.lo≤X.next) (k:Ko H X)=>zbD X hx (hG.ko k) hg hn gi
 obtain⟨⟨na,nc,rfl,⟨_,pN⟩,bJ⟩,_⟩:=hG.nodes
 obtain⟨⟨ra,rc,rfl,_⟩,_⟩:=hG.roots
 refine aQ Tryz.f106 ?_
 simp only[Tryz.f106]
 simp(disch:=omega)only[↓aa,ab,simprocAttr,sa,sI, *]
 all_goals try omega
 refine af.mono (c1 _ ah aw) ?_
 rintro _ Z ⟨⟨v,w,l,rfl,hO,go,hR⟩,sZ⟩
 have yM:=hR.Eh (b':=H.next) (by simp(disch:=omega)only[sm,sl,sI];omega)
 have kZ:Ko H Z:=Ko.call aw sZ
 have lZ:=sZ.lo
 simp(disch:=omega)only[sm,sl,sI]at lZ
 simp(disch:=omega)only[↓aa,ab,simprocAttr,sa,sI, *]
 all_goals first|exact⟨⟨_,l,rfl,hO,go,yM⟩,kZ.same lZ⟩|omega|trace_state
theorem zbG(H:Heap)(aj:H.lo≤H.next){x y:Value}{g:Gr}(hG:fD H x y g)(hg:gP g)(hn:g.nodes.length≤1000000)(gi:g.roots.length≤100000):
  af E (aC 65) [.agg #[x,y]] H fun r H'=>(∃v l,r= .tuple #[v,.int .i64 0]∧gM g l∧Ei H.next H' v l)∧aq H H':=by
 have c1:=fun(X:Heap) (hx:X.lo≤X.next) (k:Ko H X)=>zbF X hx (hG.ko k) hg hn gi
 obtain⟨⟨na,nc,rfl,⟨_,pN⟩,bJ⟩,_⟩:=hG.nodes
 obtain⟨⟨ra,rc,rfl,_⟩,_⟩:=hG.roots
 refine aQ Tryz.f65 ?_
 simp only[Tryz.f65]
 simp(disch:=omega)only[↓aa,ab,simprocAttr,sa,sI, *]
 all_goals try omega
 refine af.mono (c1 _ ah aw) ?_
 rintro _ Z ⟨⟨v,l,rfl,hO,go,hR⟩,sZ⟩
 have yM:=hR.Eh (b':=H.next) (by simp(disch:=omega)only[sm,sl,sI];omega)
 have kZ:Ko H Z:=Ko.call aw sZ
 have lZ:=sZ.lo
 simp(disch:=omega)only[sm,sl,sI]at lZ
 simp(disch:=omega)only[↓aa,ab,simprocAttr,sa,sI, *]
 all_goals first|exact⟨⟨_,l,rfl,hO,go,yM⟩,kZ.same lZ⟩|omega|trace_state
theorem zbH(H:Heap)(aj:H.lo≤H.next):af E (aC 146) [.slice none 0 0,.int .i64 0,.int .i64 0] H fun v H'=>v= .tuple #[]∧aq H H':=by
 refine aQ Tryz.f146 ?_
 simp only[Tryz.f146]
 simp(disch:=omega)only[↓aa,ab,simprocAttr,sa, *]
 refine bC H [0,1,2,6] (fun T5 H5 u5 k5 n5 l5 g5=>?_) bL
 try simp(disch:=omega)only[sm,sl,sI]at n5 l5 g5
 simp only[sq,simprocAttr]at u5
 refine bt kq (fun nn T X=>nn=0∧(T.get 6=some (.int .i64 1))∧(T.get 0=T5.get 0∧T.get 1=T5.get 1∧T.get 2=T5.get 2)∧Ko H5 X∧X.lo=H5.lo∧(True)) ?_ ?_
 ·refine⟨_,rfl,?_,?_,Ko.refl _,rfl,trivial⟩<;>exact ay
 rintro nn iB X5 ⟨rfl,m5,w5,ij,Bh,_⟩ Qs hQ aD ai
 have fM:=k5.trans ij;have Bi:=ij.ag;have uG:=ij.objs
 repeat'(first|((with_reducible show Qs _ _ _ _ _);refine ai _ _ _ _ ?_)|simp(disch:=omega)only[↓aa,ab,simprocAttr,sa, *])
 all_goals exact cf
theorem zbI(H:Heap)(aj:H.lo≤H.next)(L:Int):af E (aC 107) [.slice none 0 0,.int .i64 0,.int .i64 0,.int .i64 L] H fun v H'=>v= .tuple #[]∧aq H H':=by
 refine aQ Tryz.f107 ?_
 simp only[Tryz.f107]
 simp(disch:=omega)only[↓aa,ab,simprocAttr,sa, *]
 refine bC H [0,1,2,3,8,9] (fun T5 H5 u5 k5 n5 l5 g5=>?_) bL
 try simp(disch:=omega)only[sm,sl,sI]at n5 l5 g5
 simp only[sq,simprocAttr]at u5
 refine bt kq (fun nn T X=>nn=0∧(T.get 1=some (.int .i64 0)∧T.get 2=some (.int .i64 0)∧T.get 3=some (.int .i64 L)∧T.get 8=some (.bool true)∧T.get 9=some (.bool true))∧(T.get 0=T5.get 0)∧Ko H5 X∧X.lo=H5.lo∧(True)) ?_ ?_
 ·refine⟨_,rfl,?_,?_,Ko.refl _,rfl,trivial⟩<;>exact ay
 rintro nn iB X5 ⟨rfl,m5,w5,ij,Bh,_⟩ Qs hQ aD ai
 have fM:=k5.trans ij;have Bi:=ij.ag;have uG:=ij.objs
 repeat'(first|((with_reducible show af _ _ _ _ _);refine ak X5 (zbH _ ah) ?_;intro H2 k2 l2 n2 g2 q2;try simp(disch:=omega)only[sm,sl,sI]at l2 n2 g2 q2)|((with_reducible show Qs _ _ _ _ _);refine aD _ _ _ ?_)|simp(disch:=omega)only[↓aa,ab,simprocAttr,sa, *])
 all_goals exact cf
theorem zbJ(H:Heap)(aj:H.lo≤H.next):af E (aC 66) [.slice none 0 0] H fun v H'=>v= .tuple #[]∧aq H H':=by
 have hw:IntKind.u64.wrap 0=0:=wrap_u64 (by omega) (by omega)
 have h0:=Iv H 0 (by omega)
 rw[wcg]at h0
 refine aQ Tryz.f66 ?_
 simp only[Tryz.f66]
 simp(disch:=omega)only[↓aa,ab,simprocAttr,sa, *]
 refine af.mono h0 ?_
 rintro _ H2 ⟨⟨L,rfl, -, -,hL⟩,hX⟩
 rw[hX]
 clear h0 hX H2
 repeat'(first|((with_reducible show af _ _ _ _ _);refine ak H (zbI _ ah _) ?_;intro H2 k2 l2 n2 g2 q2;try simp(disch:=omega)only[sm,sl,sI]at l2 n2 g2 q2))
 all_goals exact cf
theorem zbK(H:Heap)(aj:H.lo≤H.next){x y:Value}{g:Gr}(hG:fD H x y g)(hg:gP g)(hn:g.nodes.length≤50000)(gi:g.roots.length≤100000):
  af E (aC 28) [.agg #[x,y]] H fun r H'=>(∃v l,r= .tuple #[v,.int .i64 0]∧gM g l∧aZ (dd .i64) 1 H' v (dh l))∧aq H H':=by
 have c1:=fun(X:Heap) (hx:X.lo≤X.next) (k:Ko H X)=>zbG X hx (hG.ko k) hg (by omega) gi
 obtain⟨⟨na,nc,rfl,⟨_,pN⟩,bJ⟩,_⟩:=hG.nodes
 obtain⟨⟨ra,rc,rfl,_⟩,_⟩:=hG.roots
 refine aQ Tryz.f28 ?_
 simp only[Tryz.f28]
 simp(disch:=omega)only[↓aa,ab,simprocAttr,sa,sI, *]
 all_goals try omega
 refine af.mono (c1 _ ah aw) ?_
 rintro _ Z ⟨⟨v,l,rfl,hO,go,hR⟩,sZ⟩
 have yM:=hR.Eh (b':=H.next) (by simp(disch:=omega)only[sm,sl,sI];omega)
 have kZ:Ko H Z:=Ko.call aw sZ
 have lZ:=sZ.lo
 simp(disch:=omega)only[sm,sl,sI]at lZ
 have nZ:=kZ.ag
 have kU:=hO.len
 clear c1
 cases go with
 |none=>
  obtain⟨rfl,h2,h3⟩:=yM
  have e:l=[]:=wac h2
  subst e
  repeat'(first|((with_reducible show af _ _ _ _ _);refine ak Z (zbJ _ ah) ?_;intro H2 k2 l2 n2 g2 q2;try simp(disch:=omega)only[sm,sl,sI]at l2 n2 g2 q2)|simp(disch:=omega)only[↓aa,ab,simprocAttr,sa,sI, *])
  all_goals try omega
  exact⟨⟨_,[],rfl,hO,(OS.nil H.next 1 H2).reads (l:=dh []) rfl (by omega) (Ej H2 (dh []))⟩,(kZ.trans k2).same (by omega)⟩
 |some gq=>
  have hDS:DS H.next gq Z v (dh l):=⟨by unfold dh;rw[wO];exact yM,by omega,by unfold dh;rw[wO];omega⟩
  simp(disch:=omega)only[↓aa,ab,simprocAttr,sa,sI, *]
  all_goals try omega
  refine af.mono (zbL Z (by omega) v _ hDS) ?_
  rintro _ Y ⟨rfl,l2,hp,gQ,bz⟩
  repeat'(first|(apply ao<;>intro)|apply bQ|refine kV (fun _=>?_) (fun _=>?_)|((with_reducible show Qs _ _ _ _ _);first|refine ai _ _ _ _ ?_|refine aD _ _ _ ?_)|simp(disch:=omega)only[↓aa,ab,simprocAttr,sa,sI, *])
  all_goals try omega
  have hm:dh (l2.map Int.toNat)=l2:=by
   unfold dh
   rw[List.map_map]
   refine(List.map_congr_left fun a ha=>?_).trans (List.map_id _)
   have:=(hp.mem_iff).1 ha
   unfold dh at this
   obtain⟨k,_,rfl⟩:=wbG.1 this
   rfl
  have xb:l.Perm (l2.map Int.toNat):=by
   have:=(hp.map Int.toNat).symm
   have e:(dh l).map Int.toNat=l:=by
    unfold dh
    rw[List.map_map]
    exact(List.map_congr_left fun a _=>rfl).trans (List.map_id _)
   rwa [e]at this
  refine⟨⟨_,l2.map Int.toNat,rfl,hO.zbd xb,?_⟩,?_⟩
  ·rw[hm]
   exact gQ.1.reads rfl (by have:=gQ.2.2;omega) (Ej Y _)
  ·exact⟨by rw[bz.lo];omega,wK nZ bz.ag,fun x hx=>(bz.below x hx).1.trans (kZ.objs x hx),fun x hx=>(bz.below x hx).2.trans (kZ.grps x hx)⟩
theorem zhV{l:List Int}(h:l.Nodup){i:Nat}(hi:i<l.length):l[i]∉l.take i:=fun hm=>by
 obtain⟨j,hj,e⟩:=wbL.1 hm
 rw[wU]at hj
 rw[List.getElem_take]at e
 have:=(List.getElem_inj h).1 e
 omega
theorem zbT(H:Heap)(aj:H.lo≤H.next){s:St}{w t f zl:Value}(hS:iQ H s w t f zl)(hwz:s.words≠[]→Gz 1 H w)(cx:sE s)(hl:s.words.length≤400)(lj:s.table.length≤100)(ft:s.bj.length≤100000):af E (aC 27) [df s w t f zl] H fun r H'=>
  ((ef s=0→∃ x y v,r= .tuple #[.agg #[x,y],v,.int .i64 0]∧fD H' x y (bU s)∧aZ (dd .i64) 1 H' v (aU s))∧(ef s≠0→r= .tuple #[.agg #[.slice none 0 0,.slice none 0 0],.slice none 0 0,.int .i64 4]))∧aq H H':=by
 have c1:=fun(X:Heap) (hx:X.lo≤X.next) (k:Ko H X)=>zhq X hx (hS.ko k) cx hl lj
 have c2:=fun(X:Heap) (hx:X.lo≤X.next) (k:Ko H X)=>zhn X hx (hS.ko k) cx.words
 have sF:=hS
 obtain⟨⟨wa,wc,rfl,⟨J8,Ep⟩,_⟩,_⟩:=hS.w
 obtain⟨⟨ta,tc,rfl,_⟩,_⟩:=hS.t
 obtain⟨⟨fa,fc,rfl,_⟩,_⟩:=hS.f
 obtain⟨⟨za,zc,rfl,⟨_,Rg⟩,yR⟩,_⟩:=hS.sl
 clear hS
 unfold df at c1 c2
 refine aQ Tryz.f27 ?_
 simp only[Tryz.f27]
 unfold df
 simp(disch:=omega)only[↓aa,ab,simprocAttr,sa, *]
 refine af.mono (c1 _ ah aw) ?_
 rintro _ Y ⟨⟨mw,my⟩,sY⟩
 have kY:Ko H Y:=Ko.call aw sY
 have lY:=sY.lo;have nY:=sY.ag;have gY:=sY.objs
 simp(disch:=omega)only[sm,sl,sI]at lY nY gY
 have bY:=gY H.next (by omega)
 have lH:=gY (H.next+1) (by omega)
 simp(disch:=omega)only[sm,sl,sI]at bY lH
 clear sY gY c1
 by_cases h0:ef s=0
 ·obtain⟨vp,rfl,hP⟩:=mw h0
  have L:=IA h0
  have cP:(aU s).length≤1000000:=Ry (by omega) (by omega)
  have xn:=hP
  obtain⟨⟨pa,pc,rfl,⟨_,pm⟩,mf⟩, -⟩:=hP
  clear mw my
  simp(disch:=omega)only[↓aa,ab,simprocAttr,sa,sI, *]
  all_goals try omega
  refine bC Y [1,2,5,7,32,33,34] (fun T5 H5 u5 j5 n5 l5 g5=>?_) bL
  try simp(disch:=omega)only[sm,sl,sI]at n5 l5 g5
  simp only[sq,simprocAttr]at u5
  refine bt kq (fun nn T X=>∃ (i:Nat),nn=(aU s).length-i∧(T.get 34=some (.int .i64 i))∧(T.get 1=T5.get 1∧T.get 2=T5.get 2∧T.get 5=T5.get 5∧T.get 7=T5.get 7∧T.get 32=T5.get 32∧T.get 33=T5.get 33)∧True∧True∧(i≤(aU s).length∧X.objs.get Y.next=some (.map (mG ((aU s).take i) 0))∧X.objs.get (Y.next+1)=some (.row [.map (some Y.next)] none true)∧Y.next+2≤X.next∧Ko Y X∧X.lo=Y.lo)) ?_ ?_
  ·have b1:=g5 Y.next
   have b2:=g5 (Y.next+1)
   rw[au (show Y.next≠Y.next+1 by omega),wS,wS,cB rfl,wai]at b1
   rw[cB rfl,wai]at b2
   refine⟨_,0,rfl,?_,?_,trivial,trivial,wJ _,b1,b2,by omega,j5,l5⟩<;>exact ay
  rintro nn iB X5 ⟨i,rfl,m5,w5,_,_,hi,hM,hB,hn2,kX,lX⟩ Qs hQ aD ai
  by_cases hlt:i<(aU s).length
  ·obtain⟨r,o,cells,gg,tt,part,rfl,hr,aG,a8,rfl⟩:=mf i (aU s)[i] (by simp)
   have a1:=bI hlt
   have e1:=(kX.objs r hr).trans aG
   have q0:=pQ a8
   have Pc:=zhu (H:=X5) (r:=Y.next) (by omega) (zhV L.nodup hlt)
   have iU:(aU s).take (i+1)=(aU s).take i++[(aU s)[i]]:=by rw[wR,wj hlt];rfl
   rw[←iU,wU,waS (by omega)]at Pc
   generalize (aU s)[i]=p at*
   clear iU
   repeat'(first|(apply ao<;>intro)|((with_reducible show Qs _ _ _ _ _);refine ai _ _ _ _ ?_)|simp(disch:=omega)only[↓aa,ab,simprocAttr,sa,sI,zhr, *])
   all_goals first|(refine hQ _ _ _ ?_ ⟨i+1,rfl,?_,?_,trivial,trivial,by omega,by simp(disch:=omega)only[sm,sl,sI],by simp(disch:=omega)only[sm,sl,sI];exact hB,by simp(disch:=omega)only[sm,sl,sI];omega,bL,by simp(disch:=omega)only[sm,sl,sI];omega⟩<;>exact ay)|omega|trace_state
  ·rw[wZ (by omega)]at hM
   have eX:=(kX.objs H.next (by omega)).trans bY
   have zf:=(kX.objs (H.next+1) (by omega)).trans lH
   have BJ:Ko H X5:=kY.trans kX
   repeat'(first|(apply ao<;>intro)|((with_reducible show Qs _ _ _ _ _);refine ai _ _ _ _ ?_)|simp(disch:=omega)only[↓aa,ab,simprocAttr,sa,sI, *])
   all_goals try omega
   refine bC X5 [1,2,5,10,11,44,45,46] (fun T6 H6 u6 j6 n6 l6 g6=>?_) bL
   try simp(disch:=omega)only[sm,sl,sI]at n6 l6 g6
   simp only[sq,simprocAttr]at u6
   refine bt kq (fun nn T X=>∃ (i:Nat) (v:Value) (cs:List Value) (f:Option (Nat×Nat)),nn=(aU s).length-i∧(T.get 46=some (.int .i64 i))∧(T.get 1=T6.get 1∧T.get 2=T6.get 2∧T.get 5=T6.get 5∧T.get 10=T6.get 10∧T.get 11=T6.get 11∧T.get 44=T6.get 44∧T.get 45=T6.get 45)∧True∧True∧(i≤(aU s).length∧b8 (X5.next+1) 3 X v i cs f∧dD kg 3 X cs (((aU s).take i).map (qe s.words (aU s)))∧X.objs.get X5.next=some (.row [v,.slice none 0 0] none true)∧X5.next+1≤X.next∧Ko X5 X∧X.lo=X5.lo)) ?_ ?_
   ·have b1:=g6 X5.next
    rw[cB rfl,wai]at b1
    refine⟨_,0,.slice none 0 0,List.nil,none,rfl,?_,?_,trivial,trivial,wJ _,b8.nil _ _ _,dD.nil _ _ _,b1,by omega,j6,l6⟩<;>exact ay
   rintro nn xh X6 ⟨i,v,cs,f,rfl,m6,w6,_,_,hi,hO,hE,BM,hn6,qg,Q3⟩ Qs hQ aD ai
   have BN:=BJ.trans qg
   have J9:=(qg.objs H.next (by omega)).trans eX
   by_cases hlt:i<(aU s).length
   ·obtain⟨r,o,cells,gg,tt,part,rfl,hr,aG,a8,rfl⟩:=mf i (aU s)[i] (by simp)
    have a1:=bI hlt
    have e1:=(qg.objs r (by have:=kX.ag;omega)).trans ((kX.objs r hr).trans aG)
    have q0:=pQ a8
    have xb:(aU s)[i]∈aU s:=wam hlt
    have iU:(aU s).take (i+1)=(aU s).take i++[(aU s)[i]]:=by rw[wR,wj hlt];rfl
    generalize (aU s)[i]=p at*
    have nw:=L.obj p xb
    have BO:=L.vJ p xb
    obtain⟨h1,h2,h3,h4,h5⟩:=kE nw
    have h6:=jO h3
    have bh:cu (aT s.words p)=1+(aT s.words p).fields+(aT s.words p).bO:=by unfold cu;rw[wF h3]
    have c3:=fun(X:Heap) (hx:X.lo≤X.next) (k:Ko H X)=>c2 X hx k p nw
    obtain⟨p',rfl⟩:=wbz h1
    have EU:s.words≠[]:=fun e=>by rw[e]at h2;simp at h2;omega
    obtain⟨wr,wc2,zhW,wg,wt,ew,lf,uP,xA⟩:=Rz sF.w EU
    simp only[waq,wbT]at ew
    obtain⟨rfl,rfl⟩:=ew
    have fG:=(yl xA).2.1
    have eW:=(BN.objs wr lf).trans uP
    obtain⟨tg,xB⟩:=J2 nw
    have xC:=fun k=>J3 (k:=k) nw
    have EV:qd s.words p'=(s.words.drop (p'+1)).take (aT s.words p').fields.toNat:=rfl
    have oT:ry s.words p'=(s.words.drop (p'+1+(aT s.words p').fields.toNat)).take (aT s.words p').bO.toNat:=rfl
    have BP:qe s.words (aU s) p'=⟨(aT s.words p').kind,(qd s.words p').map (ey (aU s)),ry s.words p'⟩:=rfl
    clear h5 nw h3
    generalize aT s.words p'=hd at*
    generalize qd s.words p'=fs at*
    generalize ry s.words p'=rs at*
    obtain⟨F,hF⟩:∃ F:Nat,hd.fields=F:=⟨hd.fields.toNat,by omega⟩
    obtain⟨R,hR⟩:∃ R:Nat,hd.bO=R:=⟨hd.bO.toNat,by omega⟩
    simp only[bK,hF,hR]at c3
    rw[hF]at BO tg xC oT EV h6 bh
    rw[hR]at xB oT h6 bh
    simp only[waD]at tg xB xC oT EV
    have RE:=hwz EU _ _ _ rfl _ _ _ uP
    obtain⟨o1,sl1,RF⟩:=RD (r:=wr) (t:=wt) (c:=wc) (l:=p'+1) (k:=F) RE xA (by omega) J8
    obtain⟨o2,sl2,RG⟩:=RD (r:=wr) (t:=wt) (c:=wc) (l:=p'+1+F) (k:=R) RE xA (by omega) J8
    rw[←EV]at RF
    rw[←oT]at RG
    have tn1:((p':Int)+1).toNat=p'+1:=by omega
    have tn2:((p':Int)+1+F).toNat=p'+1+F:=by omega
    have tn3:((p':Int)+1+F+R).toNat=p'+1+F+R:=by omega
    repeat'(first|(apply ao<;>intro)|((with_reducible show af _ _ _ _ _);refine ak X6 (c3 _ ah (BN.trans aw)) ?_;intro H2 k2 l2 n2 g2 q2;try simp(disch:=omega)only[sm,sl,sI]at l2 n2 g2 q2)|((with_reducible show Qs _ _ _ _ _);refine ai _ _ _ _ ?_)|simp(disch:=omega)only[↓aa,ab,simprocAttr,sa,sI, *])
    all_goals try omega
    have fO:=hQ
    refine bC X6 [1,2,5,10,11,14,16,17,44,45,46,69,70,71] (fun T7 H7 u7 j7 n7 l7 g7=>?_) bL
    try simp(disch:=omega)only[sm,sl,sI]at n7 l7 g7
    simp only[sq,simprocAttr]at u7
    refine bt kq (fun nn T X=>∃ (j:Nat) (vf:Value) (ff:Option (Nat×Nat)),nn=F-j∧(T.get 71=some (.int .i64 j))∧(T.get 1=T7.get 1∧T.get 2=T7.get 2∧T.get 5=T7.get 5∧T.get 10=T7.get 10∧T.get 11=T7.get 11∧T.get 14=T7.get 14∧T.get 16=T7.get 16∧T.get 17=T7.get 17∧T.get 44=T7.get 44∧T.get 45=T7.get 45∧T.get 46=T7.get 46∧T.get 69=T7.get 69∧T.get 70=T7.get 70)∧True∧True∧(j≤F∧b8 (X5.next+1) 2 X vf j (((fs.take j).map (ey (aU s))).flatMap cy) ff∧b8 (X5.next+1) 3 X v i cs f∧pA ff f∧gT X6 X∧X.objs.get (H2.next+1)=some (.row [.int .i64 hd.kind,vf,.slice none 0 0] none true)∧X.objs.get H2.next=some (.row [.int .i64 hd.kind,.int .i64 F,.int .i64 R,.bool hd.mark,.int .i64 hd.fq] none true)∧X.objs.get X5.next=some (.row [v,.slice none 0 0] none true)∧H2.next+2≤X.next∧Ko X5 X∧X.lo=X5.lo)) ?_ ?_
    ·have b1:=g7 H2.next
     have b2:=g7 (H2.next+1)
     have b3:=(j7.objs X5.next (by omega)).trans BM
     simp(disch:=omega)only[sm,sl,sI]at b1 b2
     refine⟨_,0,.slice none 0 0,none,rfl,?_,?_,trivial,trivial,wJ _,b8.nil _ _ _,hO.ko j7,trivial,j7.il,b2,b1,b3,by omega,qg.trans j7,by omega⟩<;>exact ay
    rintro nn En X7 ⟨j,vf,ff,rfl,m7,w7,_,_,hj,nG,xD,Ka,BQ,BR,BS,BU,hn7,ou,Q4⟩ Qs hQ aD ai
    have BV:=BJ.trans ou
    by_cases pn:j<F
    ·have zi:j<fs.length:=by omega
     have a2:=bI pn
     have qw:=J7 RF zi
     have Kb:=(BV.objs wr lf).trans uP
     have cp:uO (aU s) fs[j]∧fs[j]<2^64:=by
      have h:=xC j pn
      rw[wj zi,wi]at h
      rw[h]
      refine⟨BO j (by omega),?_⟩
      unfold cY
      rw[wav]
      cases hc:s.words[((p':Int)+1+j).toNat]? with
      |none=>simp
      |some w=>exact cx.words w (wag hc)
     have BW:fs.take (j+1)=fs.take j++[fs[j]]:=by rw[wR,wj zi];rfl
     have Kc:=(ou.objs (Y.next+1) (by omega)).trans hB
     have Kd:=(ou.objs Y.next (by omega)).trans hM
     obtain⟨cp,kJ⟩:=cp
     generalize fs[j]=u at*
     simp only[wV]at qw
     repeat'(first|(apply ao<;>intro)|refine az 21 [Fx,Fx,Fx,Fx,(false,[],[(60,(75,76))]),Fx,Fx,Fx,Fx] ?_|((with_reducible show Qs _ _ _ _ _);refine ai _ _ _ _ ?_)|simp(disch:=omega)only[↓aa,ab,simprocAttr,sa,sI, *])
     all_goals try omega
     refine af.mono (Rd _ (by omega) Kc Kd (by omega) (by omega) u kJ cp) ?_
     rintro _ Z ⟨rfl,sZ⟩
     have kZ:=sZ.ko
     have lZ:=sZ.lo;have nZ:=sZ.ag
     have ib:((fs.take (j+1)).map (ey (aU s))).flatMap cy=((fs.take j).map (ey (aU s))).flatMap cy++cy (ey (aU s) u):=by rw[BW,waT,wbd];simp
     have z1:=(sZ.objs (H2.next+1) (by omega)).trans BR
     have z2:=(sZ.objs H2.next (by omega)).trans BS
     have z3:=(sZ.objs X5.next (by omega)).trans BU
     generalize ey (aU s) u=tv at*
     obtain⟨Z2,xE,qi,gS,dE,ov,nI⟩:=qJ (bytes:=16) (k:=1) (new:=cy tv) (nG.ko (H':=Z.newRow (cy tv)) aw) (by simp(disch:=omega)only[sm,sl,sI];omega) (by simp(disch:=omega)only[sm,sl,sI];omega) (by decide) rfl rfl (rq (by omega))
     obtain⟨eO,gQ⟩:=nI _ _ _ _ _ (xD.ko (H':=Z.newRow (cy tv)) aw) Ka
     have y1:=dE.alone _ _ _ (by simp(disch:=omega)only[sm,sl,sI];omega) ((by simp(disch:=omega)only[sm,sl,sI];exact z1):(Z.newRow (cy tv)).objs.get (H2.next+1)=_)
     have y2:=dE.alone _ _ _ (by simp(disch:=omega)only[sm,sl,sI];omega) ((by simp(disch:=omega)only[sm,sl,sI];exact z2):(Z.newRow (cy tv)).objs.get H2.next=_)
     have y3:=dE.alone _ _ _ (by simp(disch:=omega)only[sm,sl,sI];omega) ((by simp(disch:=omega)only[sm,sl,sI];exact z3):(Z.newRow (cy tv)).objs.get X5.next=_)
     rw[←ib]at gS
     have nt:=dE.lo
     have ox:Ko X5 Z2:=Down.ko dE.low (X:=X5) (ou.trans aw) (by omega)
     have kP:gT X7 Z2:=(Ko.il (H':=Z.newRow (cy tv)) aw).trans dE.il
     simp(disch:=omega)only[sm,sl,sI]at ov nt
     unfold cy at qi
     have EW:=nG.sv
     clear nG xD BW nI ib
     simp(disch:=omega)only[↓aa,ab,simprocAttr,sa,sI,cC,iN,eF,cX,sK, *]
     all_goals try omega
     simp only[aB]at gS
     refine hQ _ _ _ ?_ ⟨j+1,_,xE,rfl,?_,?_,trivial,trivial,by omega,gS.ot y1,eO.ot y1,gQ,(BQ.trans kP).trans (qf y1),by simp(disch:=omega)only[sm,sl,sI],by simp(disch:=omega)only[sm,sl,sI];exact y2,by simp(disch:=omega)only[sm,sl,sI];exact y3,by simp(disch:=omega)only[sm,sl,sI];omega,ox.setRow (by omega) _,by simp(disch:=omega)only[sm,sl,sI];omega⟩<;>exact ay
    ·have ej:j=F:=by omega
     subst ej
     rw[wZ (by omega)]at nG
     subst xB
     have Kb:=(BV.objs wr lf).trans uP
     have zj:im dP 2 X7 vf (fs.map (ey (aU s))):=nG.oS (by rw[wO,tg]) (by omega) EO
     obtain⟨va,vc,BX⟩:=zj.form
     rw[wO,tg]at BX
     subst BX
     have cvf:=nG.cell
     clear nG oT EV
     have eX7:=(ou.objs H.next (by omega)).trans eX
     repeat'(first|(apply ao<;>intro)|((with_reducible show Qs _ _ _ _ _);refine ai _ _ _ _ ?_)|simp(disch:=omega)only[↓aa,ab,simprocAttr,sa,sI, *])
     all_goals try omega
     refine af.mono (zhU _ (by omega) (by have:=BV.ag;omega) Kb rs RG (by omega)) ?_
     rintro rw Z ⟨hRZ,sZ⟩
     have iL:im RW 1 Z rw rs:=hRZ.oS rfl ⟨by simp,fun i x h=>⟨_,OC h,rfl⟩⟩
     obtain⟨ra,rc,rfl⟩:=iL.form
     have crw:=iL.cell
     have kZ:=sZ.ko
     have kXZ:=ou.trans kZ
     have lZ:=sZ.lo;have nZ:=sZ.ag
     have z1:=(sZ.objs (H2.next+1) (by omega)).trans BR
     have z2:=(sZ.objs H2.next (by omega)).trans BS
     have z3:=(sZ.objs X5.next (by omega)).trans BU
     have z4:=qf (c':=[.int .i64 hd.kind,(.slice va j vc),(.slice ra rs.length rc)]) z1
     have z5:((Z.setRow (H2.next+1) [.int .i64 hd.kind,(.slice va j vc),(.slice ra rs.length rc)]).newRow [.int .i64 hd.kind,(.slice va j vc),(.slice ra rs.length rc)]).objs.get X5.next=some (.row [v,.slice none 0 0] none true):=by simp(disch:=omega)only[sm,sl,sI];exact z3
     obtain⟨Z2,f2,qi,eO,dE,ov, -⟩:=qJ (bytes:=56) (k:=1) (new:=[.int .i64 hd.kind,(.slice va j vc),(.slice ra rs.length rc)]) (((xD.ko kZ).ot (c':=[.int .i64 hd.kind,(.slice va j vc),(.slice ra rs.length rc)]) z1).ko (H':=(Z.setRow (H2.next+1) [.int .i64 hd.kind,(.slice va j vc),(.slice ra rs.length rc)]).newRow [.int .i64 hd.kind,(.slice va j vc),(.slice ra rs.length rc)]) aw) (by simp(disch:=omega)only[sm,sl,sI];omega) (by simp(disch:=omega)only[sm,sl,sI];omega) (by decide) rfl (by simp[cvf,crw,Hi]) (RA (by omega))
     have kP:gT Z Z2:=(z4.trans (Ko.il (H':=(Z.setRow (H2.next+1) [.int .i64 hd.kind,(.slice va j vc),(.slice ra rs.length rc)]).newRow [.int .i64 hd.kind,(.slice va j vc),(.slice ra rs.length rc)]) aw)).trans dE.il
     have y3:=dE.alone _ _ _ (by simp(disch:=omega)only[sm,sl,sI];omega) z5
     have nt:=dE.lo
     have ox:Ko X5 Z2:=Down.ko dE.low (X:=X5) aw (by omega)
     have sT:=((hE.g kg.mono ((BQ.trans kZ.il).trans kP)).snoc (part:=[.int .i64 hd.kind,(.slice va j vc),(.slice ra rs.length rc)]) (x:=⟨hd.kind,fs.map (ey (aU s)),rs⟩) rfl ⟨_,_,rfl,zj.ext dP.te (kZ.il.trans kP),iL.ext RW.te kP⟩)
     rw[←BP,show ∀a,((aU s).take i).map (qe s.words (aU s))++[a]=((aU s).take i).map (qe s.words (aU s))++[a]from fun _=>rfl]at sT
     simp(disch:=omega)only[sm,sl,sI]at ov nt
     have hQ:=fO
     have Ke:dD kg 3 Z2 (cs++[.int .i64 hd.kind,.slice va j vc,.slice ra rs.length rc]) (((aU s).take (i+1)).map (qe s.words (aU s))):=by rw[iU,waT];exact sT
     simp only[aB,aJ]at eO
     clear sT
     simp(disch:=omega)only[↓aa,ab,simprocAttr,sa,sI,cC,iN,eF, *]
     all_goals try omega
     clear BP iU
     refine hQ _ _ _ ?_ ⟨i+1,_,_,f2,rfl,?_,?_,trivial,trivial,by omega,eO.ot y3,Ke.g kg.mono (qf y3),by simp(disch:=omega)only[sm,sl,sI],by simp(disch:=omega)only[sm,sl,sI];omega,ox.setRow (wy _) _,by simp(disch:=omega)only[sm,sl,sI];omega⟩<;>exact ay
   ·have ei:i=(aU s).length:=by omega
    rw[ei,waj]at hE
    have kQ:=sF.sl
    have ziJ:=J9
    repeat'(first|(apply ao<;>intro)|((with_reducible show Qs _ _ _ _ _);refine ai _ _ _ _ ?_)|simp(disch:=omega)only[↓aa,ab,simprocAttr,sa,sI, *])
    all_goals try omega
    refine bC X6 [2,5,10,11,102,103,104] (fun T8 H8 u8 j8 n8 l8 g8=>?_) bL
    try simp(disch:=omega)only[sm,sl,sI]at n8 l8 g8
    simp only[sq,simprocAttr]at u8
    refine bt kq (fun nn T X=>∃ (k:Nat) (vr:Value) (fr:Option (Nat×Nat)),nn=s.bj.length-k∧(T.get 104=some (.int .i64 k))∧(T.get 2=T8.get 2∧T.get 5=T8.get 5∧T.get 10=T8.get 10∧T.get 11=T8.get 11∧T.get 102=T8.get 102∧T.get 103=T8.get 103)∧True∧True∧(k≤s.bj.length∧b8 (X5.next+1) 2 X vr (fN (s.bj.take k) (aU s)).length ((fN (s.bj.take k) (aU s)).flatMap cy) fr∧b8 (X5.next+1) 3 X v i cs f∧pA fr f∧gT X6 X∧X.objs.get X5.next=some (.row [v,vr] none true)∧X5.next+1≤X.next∧Ko X5 X∧X.lo=X5.lo)) ?_ ?_
    ·have b3:=(j8.objs X5.next (by omega)).trans BM
     refine⟨_,0,.slice none 0 0,none,rfl,?_,?_,trivial,trivial,wJ _,b8.nil _ _ _,hO.ko j8,trivial,j8.il,b3,by omega,qg.trans j8,by omega⟩<;>exact ay
    rintro nn IG X8 ⟨k,vr,fr,rfl,m8,w8,_,_,hk,jB,qj,BY,xF,BZ,hn8,nJ,lX8⟩ Qs hQ aD ai
    have Kf:=BJ.trans nJ
    by_cases nk:k<s.bj.length
    ·obtain⟨r,o,cells,gg,tt,part,rfl,hr,aG,a8,rfl⟩:=yR k s.bj[k] (by simp)
     have a1:=bI nk
     have e1:=(Kf.objs r hr).trans aG
     unfold uw at a8
     have ur:s.bj[k]∈s.bj:=wam nk
     have iU:s.bj.take (k+1)=s.bj.take k++[s.bj[k]]:=by rw[wR,wj nk];rfl
     have Kc:=(nJ.objs (Y.next+1) (by omega)).trans hB
     have Kd:=(nJ.objs Y.next (by omega)).trans hM
     have kJ:=cx.bj _ ur
     have cp:=L.slot _ ur
     generalize s.bj[k]=x at*
     have jC:fN (s.bj.take (k+1)) (aU s)=if x.used=true then fN (s.bj.take k) (aU s)++[ey (aU s) x.word]else fN (s.bj.take k) (aU s):=by
      unfold fN
      rw[iU,List.filter_append,waT]
      cases hu:x.used<;>simp[hu]
     have gi:(fN (s.bj.take k) (aU s)).length≤k:=by
      unfold fN
      rw[wO]
      have:=wb5 (fun y:Slot=>y.used) (s.bj.take k)
      rw[wU]at this
      omega
     generalize fN (s.bj.take k) (aU s)=RL at*
     clear iU
     cases hu:x.used with
     |false=>
      rw[hu]at jC a8
      rw[wI (by simp)]at jC
      rw[←jC]at jB
      clear jC aG
      repeat'(first|(apply ao<;>intro)|((with_reducible show Qs _ _ _ _ _);refine ai _ _ _ _ ?_)|simp(disch:=omega)only[↓aa,ab,simprocAttr,sa,sI, *])
      all_goals try omega
      refine hQ _ _ _ ?_ ⟨k+1,_,fr,rfl,?_,?_,trivial,trivial,by omega,jB.ko aw,qj.ko aw,BY,xF.trans (Ko.il aw),by simp(disch:=omega)only[sm,sl,sI];exact BZ,by simp(disch:=omega)only[sm,sl,sI];omega,aw,by simp(disch:=omega)only[sm,sl,sI];omega⟩<;>exact ay
     |true=>
      rw[hu]at jC a8
      rw[wF rfl]at jC
      clear aG
      repeat'(first|(apply ao<;>intro)|refine az 30 [Fx,Fx,Fx,Fx,Fx,Tx,Fx,Fx,Fx,Fx] ?_|((with_reducible show Qs _ _ _ _ _);refine ai _ _ _ _ ?_)|simp(disch:=omega)only[↓aa,ab,simprocAttr,sa,sI, *])
      all_goals try omega
      refine af.mono (Rd _ (by simp(disch:=omega)only[sm,sl,sI];omega) (by simp(disch:=omega)only[sm,sl,sI];exact Kc) (by simp(disch:=omega)only[sm,sl,sI];exact Kd) (by simp(disch:=omega)only[sm,sl,sI];omega) (by simp(disch:=omega)only[sm,sl,sI];omega) x.word kJ (cp hu)) ?_
      rintro _ Z ⟨rfl,sZ⟩
      have kZ:Ko X8 Z:=Ko.call aw sZ
      have lZ:=sZ.lo;have nZ:=sZ.ag
      simp(disch:=omega)only[sm,sl,sI]at lZ nZ
      have z3:=(kZ.objs X5.next (by omega)).trans BZ
      have ib:(RL++[ey (aU s) x.word]).flatMap cy=RL.flatMap cy++cy (ey (aU s) x.word):=by rw[wbd];simp
      generalize ey (aU s) x.word=tv at*
      obtain⟨Z2,xE,qi,gS,dE,ov,nI⟩:=qJ (bytes:=16) (k:=1) (new:=cy tv) (jB.ko (H':=(Z.cd H.lo).newRow (cy tv)) aw) (by simp(disch:=omega)only[sm,sl,sI];omega) (by simp(disch:=omega)only[sm,sl,sI];omega) (by decide) rfl rfl (rq (by omega))
      obtain⟨eO,gQ⟩:=nI _ _ _ _ _ (qj.ko (H':=(Z.cd H.lo).newRow (cy tv)) aw) BY
      have y3:=dE.alone _ _ _ (by simp(disch:=omega)only[sm,sl,sI];omega) ((by simp(disch:=omega)only[sm,sl,sI];exact z3):((Z.cd H.lo).newRow (cy tv)).objs.get X5.next=_)
      have nt:=dE.lo
      have ox:Ko X5 Z2:=Down.ko dE.low (X:=X5) (nJ.trans aw) (by omega)
      have kP:gT X8 Z2:=(Ko.il (H':=(Z.cd H.lo).newRow (cy tv)) aw).trans dE.il
      rw[←ib,←jC]at gS
      have gF:RL.length+1=(fN (s.bj.take (k+1)) (aU s)).length:=by rw[jC,wN];rfl
      rw[gF]at gS
      simp(disch:=omega)only[sm,sl,sI]at ov nt
      unfold cy at qi
      have EW:=jB.sv
      clear jB qj nI ib
      clear jC
      simp only[aB,aE]at gS
      simp(disch:=omega)only[↓aa,ab,simprocAttr,sa,sI,cC,iN,eF,cX,sK, *]
      all_goals try omega
      refine hQ _ _ _ ?_ ⟨k+1,_,xE,rfl,?_,?_,trivial,trivial,by omega,gS.ot y3,eO.ot y3,gQ,(xF.trans kP).trans (qf y3),by simp(disch:=omega)only[sm,sl,sI],by simp(disch:=omega)only[sm,sl,sI];omega,ox.setRow (wy _) _,by simp(disch:=omega)only[sm,sl,sI];omega⟩<;>exact ay
    ·have ek:k=s.bj.length:=by omega
     rw[ek,waj]at jB
     have Kg:=(nJ.objs (H.next+1) (by omega)).trans zf
     have B2:fN s.bj (aU s)=(bU s).roots:=rfl
     have Ca:(aU s).map (qe s.words (aU s))=(bU s).nodes:=rfl
     have gi:(bU s).roots.length≤100000:=by
      rw[←B2]
      unfold fN
      rw[wO]
      have:=wb5 (fun y:Slot=>y.used) s.bj
      omega
     rw[B2]at jB
     rw[Ca]at hE
     have g1:im kg 3 X8 v (bU s).nodes:=qj.oS (by rw[←Ca,wO,ei]) (by omega) (hE.g kg.mono xF)
     have g2:im dP 2 X8 vr (bU s).roots:=jB.oS rfl (by omega) EO
     have Cb:=qf (c':=[v,vr]) Kg
     have hG:fD (X8.setRow (H.next+1) [v,vr]) v vr (bU s):=⟨(g1.ext kg.mono Cb).qV.imp fun _ _ h=>h.nd,(g2.ext dP.te Cb).qV⟩
     have hI:=RC (c:=[v,vr]) (xn.ko (dd.mono _) (kX.trans nJ)) Kg (fun _ q=>by cases q) (fun _ q=>by cases q)
     obtain⟨_,_,hv⟩:=g1.form
     obtain⟨_,_,Kh⟩:=g2.form
     subst hv Kh
     clear g1 g2 jB qj hE hO
     repeat'(first|(apply ao<;>intro)|((with_reducible show Qs _ _ _ _ _);refine ai _ _ _ _ ?_)|simp(disch:=omega)only[↓aa,ab,simprocAttr,sa,sI, *])
     all_goals try omega
     refine⟨?_,aF⟩
     first|exact⟨fun _=>⟨_,_,_,rfl,hG,hI⟩,fun q=>q.elim⟩|exact⟨fun _=>⟨_,_,_,rfl,hG,hI⟩,fun q=>absurd rfl q⟩
 ·have e:=my h0
  clear mw my
  subst e
  simp(disch:=omega)only[↓aa,ab,simprocAttr,sa, *]
  all_goals try omega
  refine⟨?_,aF⟩
  first|exact⟨fun q=>absurd q h0,fun _=>rfl⟩|exact⟨fun q=>q.elim,fun _=>trivial⟩
theorem Bj(f:Nat→Nat){l:List Nat}{j:Nat}(h:j<l.length):cZ f (l.take (j+1))=cZ f (l.take j)+f l[j]:=by
 rw[wR,wj h,A9]
 simp[cZ]
theorem xd(o:List Nat):(dh o).length=o.length:=wO ..
theorem Iw{o:List Nat}{t:Nat}(h:t<o.length):(dh o)[t]'(by rw[xd];exact h)=(o[t]:Int):=by
 unfold dh
 rw[List.getElem_map];rfl
theorem zbM(H:Heap)(aj:H.lo≤H.next)(k:Int)(f w:Value)(n:Gn)(hf:aZ dP 2 H f n.fields)(h1:n.fields.length≤100000):af E (aC 68) [.agg #[.int .i64 k,f,w]] H fun r H'=>r= .int .i64 n.fields.length∧aq H H':=by
 obtain⟨⟨fa,fc,rfl,⟨_,fm⟩,_⟩,_⟩:=hf
 refine aQ Tryz.f68 ?_
 simp only[Tryz.f68]
 simp(disch:=omega)only[↓aa,ab,simprocAttr,sa, *]
 all_goals exact cf
theorem zbN(H:Heap)(aj:H.lo≤H.next){x y:Value}{g:Gr}(hG:fD H x y g)(hg:gP g)(v:Value)(l:List Nat)(hv:aZ (dd .i64) 1 H v (dh l))(hl:∀ i∈l,i<g.nodes.length)(kU:l.length≤100000):
  af E (aC 67) [.agg #[x,y],v,aC 68] H fun r H'=>r= .int .i64 (cZ (fun i=>(dg g i).length) l)∧aq H H':=by
 have hb:=fun L=>pI (f:=fun i=>(dg g i).length) (c:=4096) (yF hg) L
 obtain⟨⟨na,nc,rfl,⟨_,pN⟩,bJ⟩,_⟩:=hG.nodes
 obtain⟨⟨ra,rc,rfl,_⟩,_⟩:=hG.roots
 have fP:=xd l
 obtain⟨⟨pa,pc,rfl,⟨_,pm⟩,mf⟩, -⟩:=hv
 rw[fP]at pm
 refine aQ Tryz.f67 ?_
 simp only[Tryz.f67]
 rw[fP]
 simp(disch:=omega)only[↓aa,ab,simprocAttr,sa,sI, *]
 all_goals try omega
 refine bC H [2,3,7,10,11,12] (fun T5 H5 u5 k5 n5 l5 g5=>?_) bL
 try simp(disch:=omega)only[sm,sl,sI]at n5 l5 g5
 simp only[sq,simprocAttr]at u5
 refine bt kq (fun nn T X=>∃ (j S:Nat),nn=l.length-j∧(T.get 7=some (.int .i64 S)∧T.get 12=some (.int .i64 j))∧(T.get 2=T5.get 2∧T.get 3=T5.get 3∧T.get 10=T5.get 10∧T.get 11=T5.get 11)∧Ko H5 X∧X.lo=H5.lo∧(j≤l.length∧S=cZ (fun i=>(dg g i).length) (l.take j))) ?_ ?_
 ·refine⟨_,0,0,rfl,?_,?_,Ko.refl _,rfl,⟨wJ _,rfl⟩⟩<;>exact ay
 rintro nn iB X5 ⟨j,S,rfl,m5,w5,ij,Bh,⟨hj,Ek⟩⟩ Qs hQ aD ai
 have fM:=k5.trans ij;have Bi:=ij.ag;have uG:=ij.objs
 have b1:=uG H.next (by omega)
 rw[g5]at b1
 simp(disch:=omega)only[aA,aM,aB,aJ,aH,aI,aN,aO,aR,aP,aL,aE,aK,au,sl]at b1
 by_cases hlt:j<l.length
 ·have ma:j<(dh l).length:=by omega
  obtain⟨r,q,cells,gg,tt,part,rfl,hr,aG,a8,rfl⟩:=mf j (dh l)[j] (by simp)
  have a1:=bI hlt
  have e1:=(fM.objs r hr).trans aG
  have q0:=pQ a8
  have mU:=hl l[j] (wam hlt)
  have cK:=Bj (fun i=>(dg g i).length) hlt
  have Iy:=hb (l.take j)
  have HR:(l.take j).length≤l.length:=by rw[wU];omega
  have Iz:=yF hg l[j]
  rw[Iw hlt]at q0
  generalize l[j]=i at*
  obtain⟨r2,o2,nq,g2,t2,xe,rfl,dW,jY,iV,f,w,rfl,hf,hw⟩:=bJ i g.nodes[i] (by simp)
  have a2:=bI mU
  have e2:=(fM.objs r2 dW).trans jY
  have lF:dg g i=g.nodes[i].fields:=Bg (wj mU)
  have jd:=hg.node g.nodes[i] (wam mU)
  rw[lF]at cK Iz
  generalize g.nodes[i]=nd at*
  have je:=hf
  rw[←Ek]at cK Iy
  clear Ek
  have hS:S≤500000000:=by omega
  repeat'(first|(apply ao<;>intro)|((with_reducible show af _ _ _ _ _);refine ak X5 (zbM _ ah _ _ _ nd (je.ko dP.mono (fM.trans aw)) (by omega)) ?_;intro H2 k2 l2 n2 g2 q2;try simp(disch:=omega)only[sm,sl,sI]at l2 n2 g2 q2)|((with_reducible show Qs _ _ _ _ _);refine ai _ _ _ _ ?_)|simp(disch:=omega)only[↓aa,ab,simprocAttr,sa,sI, *])
  all_goals try omega
  all_goals first|(refine hQ _ _ _ ?_ ⟨j+1,S+nd.fields.length,rfl,?_,?_,?_,?_,⟨by omega,cK.symm⟩⟩<;>exact ay)|trace_state
 ·have ej:j=l.length:=by omega
  rw[ej,waj]at Ek
  subst Ek
  repeat'(first|(apply ao<;>intro)|((with_reducible show Qs _ _ _ _ _);refine ai _ _ _ _ ?_)|simp(disch:=omega)only[↓aa,ab,simprocAttr,sa,sI, *])
  all_goals exact cf
theorem zbO(H:Heap)(aj:H.lo≤H.next){x y:Value}{g:Gr}(hG:fD H x y g)(hg:gP g)(v:Value)(l:List Nat)(hv:aZ (dd .i64) 1 H v (dh l))(hl:∀ i∈l,i<g.nodes.length)(kU:l.length≤100000):
  af E (aC 29) [.agg #[x,y],v] H fun r H'=>r= .int .i64 (cZ (fun i=>(dg g i).length) l)∧aq H H':=by
 have c1:=fun(X:Heap) (hx:X.lo≤X.next) (k:Ko H X)=>zbN X hx (hG.ko k) hg v l (hv.ko (dd.mono _) k) hl kU
 obtain⟨⟨na,nc,rfl,_⟩,_⟩:=hG.nodes
 obtain⟨⟨ra,rc,rfl,_⟩,_⟩:=hG.roots
 obtain⟨⟨pa,pc,rfl,_⟩, -⟩:=hv
 refine aQ Tryz.f29 ?_
 simp only[Tryz.f29]
 repeat'(first|((with_reducible show af _ _ _ _ _);refine ak H (c1 _ ah aw) ?_;intro H2 k2 l2 n2 g2 q2;try simp(disch:=omega)only[sm,sl,sI]at l2 n2 g2 q2)|simp(disch:=omega)only[↓aa,ab,simprocAttr,sa,sI, *])
 all_goals exact cf
def IQ(k:Ky):Prop:=k.2=0∧k.1<5
structure QB(H0 H:Heap)(p:Nat)(c:List Value)(D:Ky→dU):Prop where
 ko:Ko H0 H
 lo:H.lo=H0.lo
 pb:H0.next≤p∧p<H.next
 row:H.objs.get p=some (.row c none true)
 ne:c≠[]
 nC:ke H0.next H IQ D
 z:∀ i,IQ i→(D i).z=1
section
variable{H0 H H':Heap}{p:Nat}{c:List Value}{D:Ky→dU}
theorem QB.go(h:QB H0 H p c D)(k:Ko H H')(e:H'.lo=H.lo):QB H0 H' p c D:=
 ⟨h.ko.trans k,e.trans h.lo,⟨h.pb.1,wq h.pb.2 k.ag⟩,(k.objs p h.pb.2).trans h.row,h.ne,h.nC.ko k,h.z⟩
theorem QB.set(h:QB H0 H p c D){c':List Value}(hc:c'≠[]):QB H0 (H.setRow p c') p c' D:=
 ⟨h.ko.setRow h.pb.1 _,h.lo,h.pb,by rw[aA,cB rfl];rfl,hc,h.nC.box h.row h.ne,h.z⟩
theorem eA.PZ{b g:Nat}{X Y:Heap}(e:eA b g X Y){Z:Heap}(k:Ko Z X)(hb:Z.next≤b):Ko Z Y:=
 ⟨wK k.ag e.ag,fun x hx=>(e.below x (by omega)).1.trans (k.objs x hx),fun x hx=>(e.below x (by omega)).2.trans (k.grps x hx)⟩
theorem QB.app(h:QB H0 H p c D)(aj:H0.lo≤H0.next){k:Nat}(hk:k<5){bytes:Nat}{x:Value}(hx:isCell x=true)(hs:ed 1 bytes ((D (k,0)).n+1)=true):
  ∃r m X g,appendT 1 bytes H (D (k,0)).v 1 [x]=some (.slice (some ⟨r,0,none⟩) ((D (k,0)).n+1) m,X)∧H.next≤X.next∧QB H0 X p c (dQ D (k,0) ⟨1,.slice (some ⟨r,0,none⟩) ((D (k,0)).n+1) m,(D (k,0)).n+1,(D (k,0)).cs++[x],some g⟩):=by
 have hI:IQ (k,0):=⟨rfl,hk⟩
 have hz:=h.z _ hI
 obtain⟨r,m,X,g,e1,e2,e3⟩:=h.nC.app hI (bytes:=bytes) (part:=[x]) h.ko.ag (by rw[h.lo];exact aj) (by rw[hz];rfl) (by simp[hx]) (by rw[hz];exact hs)
 rw[hz]at e1 e3
 refine⟨r,m,X,g,e1,e2.ag,e2.PZ h.ko (wy _),e2.lo.trans h.lo,⟨h.pb.1,wq h.pb.2 e2.ag⟩,e2.row h.pb.2 h.row,h.ne,e3,fun i hi=>?_⟩
 by_cases e:i=(k,0)
 ·rw[e,pV]
 ·rw[jA D _ e];exact h.z i hi
end
theorem QB.ints{H0 H:Heap}{p:Nat}{c:List Value}{D:Ky→dU}(h:QB H0 H p c D){k:Nat}(hk:k<5){l:List Nat}(h1:(D (k,0)).n=l.length)(h2:(D (k,0)).cs=(dh l).map db):aZ (dd .i64) 1 H (D (k,0)).v (dh l):=by
 have hz:=h.z (k,0) ⟨rfl,hk⟩
 have:=((h.nC.ae (k,0) ⟨rfl,hk⟩).reads (R:=dd .i64) (l:=dh l) (by rw[xd,h1]) (by rw[hz,h2];exact Ej _ _)).qV
 rwa [hz]at this
def qC(x y:Value)(aX:Int)(D:Ky→dU)(top:Int):List Value:=[x,y,.int .i64 aX,.int .i64 1,(D (0,0)).v,(D (1,0)).v,(D (2,0)).v,(D (3,0)).v,(D (4,0)).v,.int .i64 top]
structure QD(D:Ky→dU)(S L P:List Nat)(lk:List Bool):Prop where
 s:(D (0,0)).n=S.length∧(D (0,0)).cs=(dh S).map db
 b:(D (1,0)).n=S.length
 k:(D (2,0)).n=S.length∧(D (2,0)).cs=lk.map Value.bool∧lk.length=S.length
 l:(D (3,0)).n=L.length∧(D (3,0)).cs=(dh L).map db
 q:(D (4,0)).n=P.length∧(D (4,0)).cs=(dh P).map db
def QP(H0 H:Heap)(p:Nat)(x y:Value)(aX:Int)(S L P:List Nat)(lk:List Bool):Prop:=∃ D top,QB H0 H p (qC x y aX D top) D∧QD D S L P lk∧0≤top∧top≤S.length*8193
theorem QP.go{H0 H H':Heap}{p:Nat}{x y:Value}{aX:Int}{S L P:List Nat}{lk:List Bool}(h:QP H0 H p x y aX S L P lk)(k:Ko H H')(e:H'.lo=H.lo):QP H0 H' p x y aX S L P lk:=by
 obtain⟨D,top,h1,h2⟩:=h
 exact⟨D,top,h1.go k e,h2⟩
theorem IV(H:Heap)(aj:H.lo≤H.next)(k:Int)(f w:Value)(n:Gn)(hf:aZ dP 2 H f n.fields)(hw:aZ RW 1 H w n.bO)(h1:n.fields.length≤100000)(h2:n.bO.length≤100000):af E (aC 49) [.agg #[.int .i64 k,f,w]] H fun r H'=>r= .int .i64 (1+n.fields.length+n.bO.length)∧aq H H':=by
 obtain⟨⟨fa,fc,rfl,⟨_,fm⟩,_⟩,_⟩:=hf
 obtain⟨⟨wa,wc,rfl,⟨_,wm⟩,_⟩,_⟩:=hw
 refine aQ Tryz.f49 ?_
 simp only[Tryz.f49]
 simp(disch:=omega)only[↓aa,ab,simprocAttr,sa, *]
 all_goals exact cf
def sQ(u:bM)(S L:List Nat):Prop:=u.kind=2∧u.x.toNat∉S∧u.x.toNat∉L
theorem P3{S:List Nat}{i:Nat}:((i:Int)∈dh S)↔i∈S:=by
 unfold dh
 rw[wbG]
 exact⟨fun⟨j,h1,h2⟩=>by have h2:(j:Int)=i:=h2;have:j=i:=by omega
                        rw[←this];exact h1,fun h=>⟨i,h,rfl⟩⟩
theorem zcl(H0 H:Heap)(aj:H0.lo≤H0.next){x y:Value}{g:Gr}(hG:fD H0 x y g)(hg:gP g)(hn:g.nodes.length≤1000000){p:Nat}{aX:Int}{S L P:List Nat}{lk:List Bool}(hP:QP H0 H p x y aX S L P lk)(hS:S.length≤100000)(hL:L.length≤100000)(hPl:P.length≤100000)(u:bM)(hu:mq g.nodes.length u):
  ∀{S' L' P':List Nat} {xj:List Bool} {bb:Bool},(¬sQ u S L∧S'=S∧L'=L∧P'=P∧xj=lk∧bb=false∨sQ u S L∧aX<gO g u.x.toNat∧S'=S∧L'=L++[u.x.toNat]∧P'=P++[u.x.toNat]∧xj=lk∧bb=false∨sQ u S L∧¬ aX<gO g u.x.toNat∧S'=S++[u.x.toNat]∧L'=L∧P'=P∧xj=lk++[false]∧bb=true)→
  af E (aC 158) [ptr p 0,cX u] H fun r H'=>r= .bool bb∧QP H0 H' p x y aX S' L' P' xj:=by
 intro S' L' P' xj bb cJ
 obtain⟨D,top,hB,hD,t1,t2⟩:=hP
 have e1:=hB.row
 have iy:=hB.pb;have pK:=hB.ko;have Ed:=hB.lo
 have jc:=pK.ag
 have cS:=fun(X:Heap) (hx:X.lo≤X.next) (k:Ko H X) (v:Int)=>P4 X hx _ _ ((hB.ints (by decide) hD.s.1 hD.s.2).ko (dd.mono _) k) v
 have cL:=fun(X:Heap) (hx:X.lo≤X.next) (k:Ko H X) (v:Int)=>P4 X hx _ _ ((hB.ints (by decide) hD.l.1 hD.l.2).ko (dd.mono _) k) v
 unfold qC at e1
 refine aQ Tryz.f158 ?_
 simp only[Tryz.f158]
 unfold cX
 by_cases fC:u.kind=2
 ·have dk:decide (u.kind=2)=true:=wz fC
  have o3:0≤u.x∧u.x<g.nodes.length:=by
   have h1:=hu.1
   have h2:=hu.2 fC
   unfold bM.Ok at h1
   omega
  obtain⟨i,hi⟩:=wbz o3.1
  have qW:u.x.toNat=i:=by omega
  have cn:i<g.nodes.length:=by omega
  have hN:sQ u S L↔i∉S∧i∉L:=by unfold sQ;rw[qW];exact⟨fun h=>h.2,fun h=>⟨fC,h⟩⟩
  rw[qW]at cJ
  have IW:decide ((i:Int)∈dh S)=decide (i∈S):=decide_eq_decide.2 P3
  have iJ:decide ((i:Int)∈dh L)=decide (i∈L):=decide_eq_decide.2 P3
  by_cases hm:i∉S∧i∉L
  ·have d1:decide (i∈S)=false:=wx hm.1
   have d2:decide (i∈L)=false:=wx hm.2
   rw[d1]at IW
   rw[d2]at iJ
   have aG:True:=trivial
   obtain⟨⟨⟨na,nc,rfl,⟨_,pN⟩,bJ⟩,_⟩,⟨⟨ra,rc,rfl,_,_⟩,_⟩⟩:=hG
   have a1:=bI cn
   obtain⟨r,o,cells,gg,tt,part,rfl,hr,aG,a8,f,w,rfl,hf,hw⟩:=bJ i g.nodes[i] (by simp)
   have en:=(pK.objs r hr).trans aG
   have bh:=HY (wj cn)
   have ho:=hg.node g.nodes[i] (wam cn)
   generalize g.nodes[i]=nd at*
   obtain⟨-, -,o3,o4, -⟩:=ho
   have je:=hf;have jR:=hw
   obtain⟨⟨fa,fc,rfl,⟨_,fm⟩,_⟩,_⟩:=hf
   obtain⟨⟨wa,wc,rfl,⟨_,wm⟩,_⟩,_⟩:=hw
   have jG:sQ u S L:=hN.2 hm
   clear hu fC
   by_cases hz:aX<1+(nd.fields.length:Int)+nd.bO.length
   ·have dz:decide (aX<1+(nd.fields.length:Int)+nd.bO.length)=true:=wz hz
    rcases cJ with⟨q, -⟩|⟨-, -,rfl,rfl,rfl,rfl,rfl⟩|⟨-,q, -⟩
    ·exact absurd jG q
    ·clear hN jG hz hm
     repeat'(first|((with_reducible show af _ _ _ _ _);(first|refine ak H (cS _ ah bL _) ?_|refine ak H (cL _ ah bL _) ?_|refine ak H (IV _ ah nd.kind _ _ nd (je.ko dP.mono (pK.trans bL)) (jR.ko RW.mono (pK.trans bL)) (by omega) (by omega)) ?_);intro H2 k2 l2 n2 g2 q2;try simp(disch:=omega)only[sm,sl,sI]at l2 n2 g2 q2)|simp(disch:=omega)only[↓aa,ab,simprocAttr,sa,sI, *])
     all_goals try omega
     have jX:=hB.go k2 (by omega)
     obtain⟨r1,m1,X1,g1,Pe,fp,sR⟩:=(jX.go (H':=H2.newRow [.int .i64 i]) aw (by simp(disch:=omega)only[sm,sl,sI])).app (k:=3) (x:= .int .i64 i) (bytes:=8) aj (by decide) rfl (by rw[hD.l.1];exact yH (by omega))
     have xk:=sR.set (c':=[.slice (some ⟨r,o,none⟩) g.nodes.length nc,.slice ra g.roots.length rc,.int .i64 aX,.int .i64 1,(D (0,0)).v,(D (1,0)).v,(D (2,0)).v,.slice (some ⟨r1,0,none⟩) ((D (3,0)).n+1) m1,(D (4,0)).v,.int .i64 top]) (by simp)
     have lB4:=xk.lo
     obtain⟨r2,m2,X2,g3,Ef,qQ,pW⟩:=(xk.go (H':=(X1.setRow p [.slice (some ⟨r,o,none⟩) g.nodes.length nc,.slice ra g.roots.length rc,.int .i64 aX,.int .i64 1,(D (0,0)).v,(D (1,0)).v,(D (2,0)).v,.slice (some ⟨r1,0,none⟩) ((D (3,0)).n+1) m1,(D (4,0)).v,.int .i64 top]).newRow [.int .i64 i]) aw (by simp(disch:=omega)only[sm,sl,sI])).app (k:=4) (x:= .int .i64 i) (bytes:=8) aj (by decide) rfl (by rw[jA D _ (by decide),hD.q.1];exact yH (by omega))
     rw[jA D _ (by decide)]at Ef pW
     have yP:=pW.set (c':=[.slice (some ⟨r,o,none⟩) g.nodes.length nc,.slice ra g.roots.length rc,.int .i64 aX,.int .i64 1,(D (0,0)).v,(D (1,0)).v,(D (2,0)).v,.slice (some ⟨r1,0,none⟩) ((D (3,0)).n+1) m1,.slice (some ⟨r2,0,none⟩) ((D (4,0)).n+1) m2,.int .i64 top]) (by simp)
     have w0:=jX.row
     have w1:=sR.row
     have w2:=pW.row
     have l1:=sR.lo;have l2':=pW.lo;have l0:=jX.lo
     unfold qC at w0 w1
     simp(disch:=omega)only[sm,sl,sI]at fp qQ
     clear hB jX sR xk pW cS cL
     simp(disch:=omega)only[↓aa,ab,simprocAttr,sa,sI,cC,iN,eF,wL,wat,wY,waA,waV,waZ, *]
     all_goals try omega
     obtain⟨D2,gQ⟩:∃ D2,D2=dQ (dQ D (3,0) ⟨1,.slice (some ⟨r1,0,none⟩) ((D (3,0)).n+1) m1,(D (3,0)).n+1,(D (3,0)).cs++[.int .i64 i],some g1⟩) (4,0) ⟨1,.slice (some ⟨r2,0,none⟩) ((D (4,0)).n+1) m2,(D (4,0)).n+1,(D (4,0)).cs++[.int .i64 i],some g3⟩:=⟨_,rfl⟩
     rw[←gQ]at yP
     refine⟨D2,top,?_,?_,t1,t2⟩
     ·rw[show qC (.slice (some ⟨r,o,none⟩) g.nodes.length nc) (.slice ra g.roots.length rc) aX D2 top=[.slice (some ⟨r,o,none⟩) g.nodes.length nc,.slice ra g.roots.length rc,.int .i64 aX,.int .i64 1,(D (0,0)).v,(D (1,0)).v,(D (2,0)).v,.slice (some ⟨r1,0,none⟩) ((D (3,0)).n+1) m1,.slice (some ⟨r2,0,none⟩) ((D (4,0)).n+1) m2,.int .i64 top] by rw[gQ];simp[qC,dQ]]
      exact yP
     ·rw[gQ]
      exact⟨by simpa[dQ]using hD.s,by simpa[dQ]using hD.b,by simpa[dQ]using hD.k,by simp[dQ,hD.l.1,hD.l.2,dh,db],by simp[dQ,hD.q.1,hD.q.2,dh,db]⟩
    ·exact absurd (show aX<gO g i by omega) q
   ·have dz:decide (aX<1+(nd.fields.length:Int)+nd.bO.length)=false:=wx hz
    rcases cJ with⟨q, -⟩|⟨-,q, -⟩|⟨-, -,rfl,rfl,rfl,rfl,rfl⟩
    ·exact absurd jG q
    ·exact absurd (show aX<1+(nd.fields.length:Int)+nd.bO.length by omega) hz
    ·clear hN jG hz hm
     repeat'(first|((with_reducible show af _ _ _ _ _);(first|refine ak H (cS _ ah bL _) ?_|refine ak H (cL _ ah bL _) ?_|refine ak H (IV _ ah nd.kind _ _ nd (je.ko dP.mono (pK.trans bL)) (jR.ko RW.mono (pK.trans bL)) (by omega) (by omega)) ?_);intro H2 k2 l2 n2 g2 q2;try simp(disch:=omega)only[sm,sl,sI]at l2 n2 g2 q2)|simp(disch:=omega)only[↓aa,ab,simprocAttr,sa,sI, *])
     all_goals try omega
     have jX:=hB.go k2 (by omega)
     obtain⟨r1,m1,X1,g1,Pe,fp,sR⟩:=(jX.go (H':=H2.newRow [.int .i64 i]) aw (by simp(disch:=omega)only[sm,sl,sI])).app (k:=0) (x:= .int .i64 i) (bytes:=8) aj (by decide) rfl (by rw[hD.s.1];exact yH (by omega))
     have xk:=sR.set (c':=[.slice (some ⟨r,o,none⟩) g.nodes.length nc,.slice ra g.roots.length rc,.int .i64 aX,.int .i64 1,.slice (some ⟨r1,0,none⟩) ((D (0,0)).n+1) m1,(D (1,0)).v,(D (2,0)).v,(D (3,0)).v,(D (4,0)).v,.int .i64 top]) (by simp)
     have lB4:=xk.lo
     obtain⟨r2,m2,X2,g2,Ef,qQ,pW⟩:=(xk.go (H':=(X1.setRow p [.slice (some ⟨r,o,none⟩) g.nodes.length nc,.slice ra g.roots.length rc,.int .i64 aX,.int .i64 1,.slice (some ⟨r1,0,none⟩) ((D (0,0)).n+1) m1,(D (1,0)).v,(D (2,0)).v,(D (3,0)).v,(D (4,0)).v,.int .i64 top]).newRow [.int .i64 top]) aw (by simp(disch:=omega)only[sm,sl,sI])).app (k:=1) (x:= .int .i64 top) (bytes:=8) aj (by decide) rfl (by rw[jA D _ (by decide),hD.b];exact yH (by omega))
     rw[jA D _ (by decide)]at Ef pW
     have yP:=pW.set (c':=[.slice (some ⟨r,o,none⟩) g.nodes.length nc,.slice ra g.roots.length rc,.int .i64 aX,.int .i64 1,.slice (some ⟨r1,0,none⟩) ((D (0,0)).n+1) m1,.slice (some ⟨r2,0,none⟩) ((D (1,0)).n+1) m2,(D (2,0)).v,(D (3,0)).v,(D (4,0)).v,.int .i64 top]) (by simp)
     have lB6:=yP.lo
     obtain⟨r3,m3,X3,g3,Pg,yD,Bt⟩:=(yP.go (H':=(X2.setRow p [.slice (some ⟨r,o,none⟩) g.nodes.length nc,.slice ra g.roots.length rc,.int .i64 aX,.int .i64 1,.slice (some ⟨r1,0,none⟩) ((D (0,0)).n+1) m1,.slice (some ⟨r2,0,none⟩) ((D (1,0)).n+1) m2,(D (2,0)).v,(D (3,0)).v,(D (4,0)).v,.int .i64 top]).newRow [.bool false]) aw (by simp(disch:=omega)only[sm,sl,sI])).app (k:=2) (x:= .bool false) (bytes:=1) aj (by decide) rfl (by rw[jA _ _ (by decide),jA D _ (by decide),hD.k.1];exact Pb (by omega))
     rw[jA _ _ (by decide),jA D _ (by decide)]at Pg Bt
     have P5:=(Bt.set (c':=[.slice (some ⟨r,o,none⟩) g.nodes.length nc,.slice ra g.roots.length rc,.int .i64 aX,.int .i64 1,.slice (some ⟨r1,0,none⟩) ((D (0,0)).n+1) m1,.slice (some ⟨r2,0,none⟩) ((D (1,0)).n+1) m2,.slice (some ⟨r3,0,none⟩) ((D (2,0)).n+1) m3,(D (3,0)).v,(D (4,0)).v,.int .i64 top]) (by simp)).set (c':=[.slice (some ⟨r,o,none⟩) g.nodes.length nc,.slice ra g.roots.length rc,.int .i64 aX,.int .i64 1,.slice (some ⟨r1,0,none⟩) ((D (0,0)).n+1) m1,.slice (some ⟨r2,0,none⟩) ((D (1,0)).n+1) m2,.slice (some ⟨r3,0,none⟩) ((D (2,0)).n+1) m3,(D (3,0)).v,(D (4,0)).v,.int .i64 (top+(1+nd.fields.length+nd.bO.length))]) (by simp)
     have w0:=jX.row
     have w1:=sR.row
     have w2:=pW.row
     have w3:=Bt.row
     have l1:=sR.lo;have l2':=pW.lo;have l0:=jX.lo;have l3:=Bt.lo
     unfold qC at w0 w1
     simp(disch:=omega)only[sm,sl,sI]at fp qQ yD
     clear hB jX sR xk pW yP Bt cS cL
     repeat'(first|refine az 12 [Fx,Fx,Fx,Fx,Fx,Fx,Fx,Fx,Fx,Fx,Fx,Fx,Fx,Fx] ?_|simp(disch:=omega)only[↓aa,ab,simprocAttr,sa,sI,sL,cC,iN,eF,wL,wat,wY,waA,waV,waZ, *])
     all_goals try omega
     obtain⟨D2,gQ⟩:∃ D2,D2=dQ (dQ (dQ D (0,0) ⟨1,.slice (some ⟨r1,0,none⟩) ((D (0,0)).n+1) m1,(D (0,0)).n+1,(D (0,0)).cs++[.int .i64 i],some g1⟩) (1,0) ⟨1,.slice (some ⟨r2,0,none⟩) ((D (1,0)).n+1) m2,(D (1,0)).n+1,(D (1,0)).cs++[.int .i64 top],some g2⟩) (2,0) ⟨1,.slice (some ⟨r3,0,none⟩) ((D (2,0)).n+1) m3,(D (2,0)).n+1,(D (2,0)).cs++[.bool false],some g3⟩:=⟨_,rfl⟩
     rw[←gQ]at P5
     refine⟨D2,top+(1+nd.fields.length+nd.bO.length),?_,?_,by omega,by rw[wN,wbJ];omega⟩
     ·rw[show qC (.slice (some ⟨r,o,none⟩) g.nodes.length nc) (.slice ra g.roots.length rc) aX D2 (top+(1+nd.fields.length+nd.bO.length))=[.slice (some ⟨r,o,none⟩) g.nodes.length nc,.slice ra g.roots.length rc,.int .i64 aX,.int .i64 1,.slice (some ⟨r1,0,none⟩) ((D (0,0)).n+1) m1,.slice (some ⟨r2,0,none⟩) ((D (1,0)).n+1) m2,.slice (some ⟨r3,0,none⟩) ((D (2,0)).n+1) m3,(D (3,0)).v,(D (4,0)).v,.int .i64 (top+(1+nd.fields.length+nd.bO.length))] by rw[gQ];simp[qC,dQ]]
      exact P5
     ·rw[gQ]
      exact⟨by simp[dQ,hD.s.1,hD.s.2,dh,db],by simp[dQ,hD.b],by simp[dQ,hD.k.1,hD.k.2.1,hD.k.2.2],by simpa[dQ]using hD.l,by simpa[dQ]using hD.q⟩
  ·have IX:¬ sQ u S L:=fun h=>hm (hN.1 h)
   have d3:decide ((i:Int)∈dh S)=true∨decide ((i:Int)∈dh S)=false∧decide ((i:Int)∈dh L)=true:=by
    rw[IW,iJ]
    by_cases q:i∈S
    ·exact .inl (wz q)
    ·exact .inr ⟨wx q,wz (wbK fun q2=>hm ⟨q,q2⟩)⟩
   rcases cJ with⟨-,rfl,rfl,rfl,rfl,rfl⟩|⟨q, -⟩|⟨q, -⟩
   rotate_left
   ·exact absurd q IX
   ·exact absurd q IX
   clear IW iJ hu o3 fC IX hN hm
   rcases d3 with d3|⟨d3,d4⟩
   all_goals repeat'(first|((with_reducible show af _ _ _ _ _);(first|refine ak H (cS _ ah bL _) ?_|refine ak H (cL _ ah bL _) ?_);intro H2 k2 l2 n2 g2 q2;try simp(disch:=omega)only[sm,sl,sI]at l2 n2 g2 q2)|simp(disch:=omega)only[↓aa,ab,simprocAttr,sa,sI, *])
   all_goals try omega
   all_goals exact⟨D,top,hB.go bL (by first|omega|(simp(disch:=omega)only[sm,sl,sI];omega)),hD,t1,t2⟩
 ·have dk:decide (u.kind=2)=false:=wx fC
  have hN:¬ sQ u S L:=fun h=>fC h.1
  rcases cJ with⟨-,rfl,rfl,rfl,rfl,rfl⟩|⟨q, -⟩|⟨q, -⟩
  rotate_left
  ·exact absurd q hN
  ·exact absurd q hN
  clear hu fC cS cL hN
  simp(disch:=omega)only[↓aa,ab,simprocAttr,sa,sI, *]
  all_goals try omega
  all_goals exact⟨D,top,hB.go bL (by simp(disch:=omega)only[sm,sl,sI]),hD,t1,t2⟩
def oo(g:Gr)(aX:Int)(S L:List Nat):Prop:=(∀i∈S,¬aX<gO g i)∧∀ i∈L,aX<gO g i
theorem oo.small{g:Gr}{aX:Int}{S L:List Nat}{i:Nat}(h:oo g aX S L)(hi:¬ aX<gO g i):oo g aX (S++[i]) L:=
 ⟨fun j hj=>by
  rcases waI.1 hj with hj|hj
  ·exact h.1 j hj
  ·rw[waG.1 hj];exact hi,h.2⟩
theorem oo.mj{g:Gr}{aX:Int}{S L:List Nat}{i:Nat}(h:oo g aX S L)(hi:aX<gO g i):oo g aX S (L++[i]):=
 ⟨h.1,fun j hj=>by
  rcases waI.1 hj with hj|hj
  ·exact h.2 j hj
  ·rw[waG.1 hj];exact hi⟩
theorem QB.look{H0 H:Heap}{p:Nat}{c:List Value}{D:Ky→dU}(h:QB H0 H p c D)(aj:H0.lo≤H0.next){o:Nat}(ho:o<(D (2,0)).cs.length)(x:Value)(hx:isCell x=true):
  ∃r m full gg X g,(D (2,0)).v= .slice (some ⟨r,0,none⟩) (D (2,0)).n m∧r<H.next∧H.objs.get r=some (.row full gg true)∧writeV H r o [x] (some (.row full gg true))=some X∧H.next≤X.next∧QB H0 X p c (dQ D (2,0) ⟨1,(D (2,0)).v,(D (2,0)).n,(D (2,0)).cs.set o x,some g⟩):=by
 have hI:IQ (2,0):=⟨rfl,by decide⟩
 have hz:=h.z _ hI
 obtain⟨r,m,full,aS,g,X,e1,e2,e3,e4,e5,e6,e7⟩:=h.nC.write hI (new:=[x]) (o:=o) (by rw[h.lo];exact aj) (by simp[hx]) (by simp) (by simp;omega)
 rw[KY x o _ ho,hz]at e7
 have gF:r<H.next:=by
  rcases h.nC.ae _ hI with q|⟨q,_⟩
  ·rw[e1]at q
   obtain⟨r',_,_,_,q1,_,_,_,_,_,_,q2,_⟩:=q
   rw[e2]at q1
   simp only[waq,wi,wcE,wcl,wbT]at q1
   rw[q1.1];exact q2
  ·rw[e1]at q;cases q
 refine⟨r,m,full,_,X,g,e2,gF,e3,by rw[←e3,←AL];exact e5,e6.ag,e6.PZ h.ko (wy _),e6.lo.trans h.lo,⟨h.pb.1,wq h.pb.2 e6.ag⟩,e6.row h.pb.2 h.row,h.ne,e7,fun i hi=>?_⟩
 by_cases e:i=(2,0)
 ·rw[e,pV]
 ·rw[jA D _ e];exact h.z i hi
structure QH(H0 H:Heap)(p:Nat):Prop where
 ko:Ko H0 H
 lo:H.lo=H0.lo
 p1:H0.next≤p
 p2:p<H.next
theorem QP.qh{H0 H:Heap}{p:Nat}{x y:Value}{aX:Int}{S L P:List Nat}{lk:List Bool}(h:QP H0 H p x y aX S L P lk):QH H0 H p:=by
 obtain⟨D,top,hB, -⟩:=h
 exact⟨hB.ko,hB.lo,hB.pb.1,hB.pb.2⟩
theorem QP.row{H0 H:Heap}{p:Nat}{x y:Value}{aX:Int}{S L P:List Nat}{lk:List Bool}(h:QP H0 H p x y aX S L P lk):∃ (a:Option Addr) (kk:Nat) (c5 c6 c7 c8 c9:Value),H.objs.get p=some (.row [x,y,.int .i64 aX,.int .i64 1,.slice a S.length kk,c5,c6,c7,c8,c9] none true):=by
 obtain⟨D,top,hB,hQ, -⟩:=h
 obtain⟨a,k,e⟩:=(hB.nC.ae (0,0) ⟨rfl,by decide⟩).form
 have:=hB.row
 unfold qC at this
 rw[e,hQ.s.1]at this
 exact⟨a,k,_,_,_,_,_,this⟩
theorem Dn.len{g:Gr}{l:List Nat}{p:List bM}(h:Dn g l p):l.length≤g.nodes.length:=AY _ l h.nodup h.lt
theorem P6(H0:Heap)(aj:H0.lo≤H0.next){x y:Value}{g:Gr}(hG:fD H0 x y g)(hg:gP g)(hn:g.nodes.length≤50000){p:Nat}{aX:Int}:∀ (m:Nat) (H:Heap) (S L P:List Nat) (R:List bM) (v:Value) (vs:List bM),g.nodes.length-(S.length+L.length)≤m→QP H0 H p x y aX S L P (List.replicate S.length true)→aZ dP 2 H0 v vs→(∀u∈vs,mq g.nodes.length u)→vs.length≤100000→Dn g (S++L) (vs++(R++P.flatMap (dg g)))→oo g aX S L→P.length≤L.length→(∀i∈P,i<g.nodes.length)→
  af E (aC 112) [ptr p 0,v,.bool true] H fun r H'=>r= .tuple #[]∧∃ S' L' P',QP H0 H' p x y aX S' L' P' (List.replicate S'.length true)∧Dn g (S'++L') (R++P'.flatMap (dg g))∧oo g aX S' L'∧S.length+L.length≤S'.length+L'.length∧(L'.length+P.length=L.length+P'.length∧L.length≤L'.length)∧∀ i∈P',i<g.nodes.length:=by
 intro m
 induction m using Nat.strongRecOn with
 |_ m ih=>
 intro H S L P R v vs hm hP hv mV Pj hD hz Bu xl
 have iP:=hv
 obtain⟨⟨va,vc,rfl,⟨_,vm⟩,bJ⟩,_⟩:=hv
 have hq:=hP.qh
 have jc:=hq.ko.ag
 have iq:=hq.lo
 refine aQ Tryz.f112 ?_
 simp only[Tryz.f112]
 simp(disch:=omega)only[↓aa,ab,simprocAttr,sa,sI, *]
 all_goals try omega
 refine bC H [0,1,2,6] (fun T5 H5 u5 j5 n5 l5 g5=>?_) bL
 try simp(disch:=omega)only[sm,sl,sI]at n5 l5 g5
 simp only[sq,simprocAttr]at u5
 refine bt kq (fun nn T X=>∃ (j:Nat) (S1 L1 P1:List Nat),nn=vs.length-j∧(T.get 6=some (.int .i64 j))∧(T.get 0=T5.get 0∧T.get 1=T5.get 1∧T.get 2=T5.get 2)∧True∧True∧(j≤vs.length∧QP H0 X p x y aX S1 L1 P1 (List.replicate S1.length true)∧Dn g (S1++L1) (vs.drop j++(R++P1.flatMap (dg g)))∧oo g aX S1 L1∧S.length+L.length≤S1.length+L1.length∧(L1.length+P.length=L.length+P1.length∧L.length≤L1.length)∧∀ i∈P1,i<g.nodes.length)) ?_ ?_
 ·refine⟨_,0,S,L,P,rfl,?_,?_,trivial,trivial,wJ _,hP.go j5 l5,hD,hz,wy _,by omega,xl⟩<;>exact ay
 clear hP hD hz
 rintro nn iB X5 ⟨j,S1,L1,P1,rfl,m5,w5,_,_,hj,hP,hD,hz,IY,IZ,xm⟩ Qs hQ aD ai
 have zcm:P1.length≤L1.length:=by omega
 have h5:=hP.qh
 have Pk:=h5.ko.ag
 have Pl:=h5.lo
 have h5p:=h5.p2
 have cg:=hD.len
 rw[wN]at cg
 by_cases hlt:j<vs.length
 ·obtain⟨r,o,cells,gg,tt,part,rfl,hr,aG,a8,rfl⟩:=bJ j vs[j] (by simp)
  have a1:=bI hlt
  have e1:=(h5.ko.objs r hr).trans aG
  have hu:=mV vs[j] (wam hlt)
  rw[wX hlt,wat]at hD
  generalize vs[j]=u at*
  unfold cy at a8
  obtain⟨sa5,sk5,_,_,_,_,_,e2⟩:=hP.row
  have c1:=fun S' L' P' xj bb=>@zcl H0 X5 aj x y g hG hg (by omega) p aX S1 L1 P1 _ hP (by omega) (by omega) (by omega) u hu S' L' P' xj bb
  unfold cX at c1
  by_cases hN:sQ u S1 L1
  ·have o3:0≤u.x∧u.x<g.nodes.length:=by
    have fC:=hN.1
    have h1:=hu.1
    have h2:=hu.2 hN.1
    unfold bM.Ok at h1
    omega
   have pM:=hD.new hg.right hN.1 (fun q=>(waI.1 q).elim hN.2.1 hN.2.2)
   have zcn:=pM.len
   rw[wN,wN,wbJ]at zcn
   by_cases rZ:aX<gO g u.x.toNat
   ·have c2:=c1 _ _ _ _ _ (.inr (.inl ⟨hN,rZ,rfl,rfl,rfl,rfl,rfl⟩))
    clear c1
    repeat'(first|(apply ao<;>intro)|((with_reducible show Qs _ _ _ _ _);refine ai _ _ _ _ ?_)|simp(disch:=omega)only[↓aa,ab,simprocAttr,sa,sI, *])
    all_goals try omega
    refine af.mono c2 ?_
    rintro _ Y ⟨rfl,hY⟩
    simp(disch:=omega)only[↓aa,ab,simprocAttr,sa,sI, *]
    all_goals try omega
    have yQ:Dn g (S1++(L1++[u.x.toNat])) (vs.drop (j+1)++(R++(P1++[u.x.toNat]).flatMap (dg g))):=by
     rw[←waP]
     refine pM.mem fun v=>?_
     simp only[waI,wbd,wbm,List.flatMap_nil,waw]
     constructor
     ·rintro(h|h|h|h)
      ·exact .inr (.inr (.inr h))
      ·exact .inl h
      ·exact .inr (.inl h)
      ·exact .inr (.inr (.inl h))
     ·rintro(h|h|h|h)
      ·exact .inr (.inl h)
      ·exact .inr (.inr (.inl h))
      ·exact .inr (.inr (.inr h))
      ·exact .inl h
    refine hQ _ _ _ ?_ ⟨j+1,S1,L1++[u.x.toNat],P1++[u.x.toNat],rfl,?_,?_,trivial,trivial,by omega,hY,yQ,hz.mj rZ,by rw[wN,wbJ];omega,by simp only[wN,wbJ];omega,fun i hi=>(waI.1 hi).elim (xm i) fun q=>by rw[waG.1 q];omega⟩<;>exact ay
   ·have c2:=c1 _ _ _ _ _ (.inr (.inr ⟨hN,rZ,rfl,rfl,rfl,rfl,rfl⟩))
    clear c1
    obtain⟨i,hi⟩:=wbz o3.1
    have qW:u.x.toNat=i:=by omega
    have cn:i<g.nodes.length:=by omega
    rw[qW]at c2 pM rZ
    rw[hi]at c2
    repeat'(first|(apply ao<;>intro)|((with_reducible show Qs _ _ _ _ _);refine ai _ _ _ _ ?_)|simp(disch:=omega)only[↓aa,ab,simprocAttr,sa,sI, *])
    all_goals try omega
    refine af.mono c2 ?_
    rintro _ Y ⟨rfl,hY⟩
    obtain⟨D,top,hB,gR,t1,t2⟩:=hY
    obtain⟨r5,m5',zik,gg5,Z,g6,P7,hr5,zil,hw5,zim,Eu⟩:=hB.look aj (o:=S1.length) (by rw[gR.k.2.1];simp) (.bool true) rfl
    have e3:=hB.row
    have e4:=Eu.row
    have iy:=hB.pb
    have zin:=hB.lo
    have hn5:=gR.k.1
    have P8:qC x y aX (dQ D (2,0) ⟨1,(D (2,0)).v,(D (2,0)).n,(D (2,0)).cs.set S1.length (.bool true),some g6⟩) top=qC x y aX D top:=by simp[qC,dQ]
    have uf:(D (2,0)).cs.set S1.length (.bool true)=(List.replicate (S1.length+1) true).map Value.bool:=by
     rw[gR.k.2.1,waT,List.set_append_right _ _ (by simp),List.replicate_succ',waT]
     simp
    have hZ:QP H0 Z p x y aX (S1++[i]) L1 P1 (List.replicate (S1++[i]).length true):=by
     refine⟨_,top,by rw[P8];exact Eu,⟨?_,?_,?_,?_,?_⟩,t1,t2⟩
     ·simpa[dQ]using gR.s
     ·simpa[dQ]using gR.b
     ·rw[pV]
      exact⟨gR.k.1,by rw[uf,wN,wbJ],by rw[wbn]⟩
     ·simpa[dQ]using gR.l
     ·simpa[dQ]using gR.q
    have I1:=hZ.qh
    have yR:=I1.lo
    rw[hn5,wN,wbJ]at P7
    unfold qC at e3 e4
    rw[P7]at e3 e4
    obtain⟨⟨⟨na,nc,rfl,⟨_,pN⟩,fP⟩,Ig⟩,⟨⟨ra,rc,rfl,_,_⟩,_⟩⟩:=id hG
    have a2:=bI cn
    have a3:at? (S1.length:Int) (S1.length+1)=some S1.length:=bI (by omega)
    obtain⟨r3,Pn,Is,g3,t3,It,rfl,rU,pO,pP,f,Po,rfl,hf,Pp⟩:=fP i g.nodes[i] (by simp)
    have e5:=(I1.ko.objs r3 rU).trans pO
    have e6:=(I1.ko.objs r hr).trans aG
    have lF:dg g i=g.nodes[i].fields:=Bg (wj cn)
    have jd:=hg.node g.nodes[i] (wam cn)
    rw[lF]at pM
    generalize g.nodes[i]=nd at*
    obtain⟨q3,q4,q5⟩:=vL pP
    obtain⟨w0,w1⟩:=HC a8
    clear uf P8 hB Eu gR pP c2 e1 aG pO
    repeat'(first|refine az 6 [Fx,Fx,Fx,Fx,Fx,Fx,Fx,Fx,Fx,Fx,Fx,Fx,Fx,Fx,Fx] ?_|simp(disch:=omega)only[↓aa,ab,simprocAttr,sa,sI, *])
    all_goals try omega
    have yQ:Dn g ((S1++[i])++L1) (nd.fields++((vs.drop (j+1)++R)++P1.flatMap (dg g))):=by
     rw[waP (vs.drop (j+1))]
     exact pM.perm (by rw[waP,waP];exact List.Perm.append_left _ List.perm_append_comm)
    have jM:(S1++[i]).length=S1.length+1:=by rw[wN,wbJ]
    refine af.mono (ih (g.nodes.length-(S1.length+1+L1.length)) (by omega) Z (S1++[i]) L1 P1 (vs.drop (j+1)++R) _ nd.fields (by rw[jM];omega) hZ hf jd.2.2.2.2 (by have:=jd.2.2.1;omega) yQ (hz.small rZ) zcm xm) ?_
    rintro _ W ⟨rfl,S2,L2,P2,hW,yS,I2,hcW,hPW,zco⟩
    have fG:=hW.qh.lo
    rw[waP]at yS
    simp(disch:=omega)only[↓aa,ab,simprocAttr,sa,sI, *]
    all_goals try omega
    refine hQ _ _ _ ?_ ⟨j+1,S2,L2,P2,rfl,?_,?_,trivial,trivial,by omega,hW,yS,I2,by omega,by omega,zco⟩<;>exact ay
  ·have c2:=c1 _ _ _ _ _ (.inl ⟨hN,rfl,rfl,rfl,rfl,rfl⟩)
   clear c1
   repeat'(first|(apply ao<;>intro)|((with_reducible show Qs _ _ _ _ _);refine ai _ _ _ _ ?_)|simp(disch:=omega)only[↓aa,ab,simprocAttr,sa,sI, *])
   all_goals try omega
   refine af.mono c2 ?_
   rintro _ Y ⟨rfl,hY⟩
   simp(disch:=omega)only[↓aa,ab,simprocAttr,sa,sI, *]
   all_goals try omega
   refine hQ _ _ _ ?_ ⟨j+1,S1,L1,P1,rfl,?_,?_,trivial,trivial,by omega,hY,hD.aS (fun q=>hN ⟨q.1,fun h=>q.2 (List.mem_append_left _ h),fun h=>q.2 (List.mem_append_right _ h)⟩),hz,IY,IZ,xm⟩<;>exact ay
 ·have ej:j=vs.length:=by omega
  rw[ej,wbF,wL]at hD
  repeat'(first|(apply ao<;>intro)|((with_reducible show Qs _ _ _ _ _);refine ai _ _ _ _ ?_)|simp(disch:=omega)only[↓aa,ab,simprocAttr,sa,sI, *])
  all_goals try omega
  all_goals first|exact⟨S1,L1,P1,hP,hD,hz,IY,IZ,xm⟩|exact⟨rfl,S1,L1,P1,hP,hD,hz,IY,IZ,xm⟩|trace_state
def RB:Heap→List Value→Bool→Prop:=fun _ part b=>part=[.bool b]
theorem zcp(H:Heap):∀ l:List Bool,dD RB 1 H (l.map Value.bool) l:=fun l=>by
 refine⟨by rw[wO,waY],fun i x hx=>⟨[.bool x],?_,rfl⟩⟩
 have hi:=(wD.1 hx).1
 rw[dB,wF (by rw[wO];omega),waY,←List.map_drop,wX hi]
 rw[wj hi,wi]at hx
 rw[hx]
 rfl
theorem QP.flags{H0 H:Heap}{p:Nat}{x y:Value}{aX:Int}{S L P:List Nat}{lk:List Bool}(h:QP H0 H p x y aX S L P lk):∃ (a b d:Option Addr) (kk kb kd:Nat) (c5 c7 c9:Value),H.objs.get p=some (.row [x,y,.int .i64 aX,.int .i64 1,.slice a S.length kk,c5,.slice b S.length kb,c7,.slice d P.length kd,c9] none true)∧aZ RB 1 H (.slice b S.length kb) lk∧lk.length=S.length:=by
 obtain⟨D,top,hB,hQ, -⟩:=h
 obtain⟨a,k,e⟩:=(hB.nC.ae (0,0) ⟨rfl,by decide⟩).form
 obtain⟨b,k2,e2⟩:=(hB.nC.ae (2,0) ⟨rfl,by decide⟩).form
 obtain⟨d,k3,e3⟩:=(hB.nC.ae (4,0) ⟨rfl,by decide⟩).form
 have hz:=hB.z (2,0) ⟨rfl,by decide⟩
 have hR:=((hB.nC.ae (2,0) ⟨rfl,by decide⟩).reads (R:=RB) (l:=lk) (by rw[hQ.k.1,hQ.k.2.2]) (by rw[hz,hQ.k.2.1];exact zcp _ _)).qV
 rw[hz,e2,hQ.k.1]at hR
 have:=hB.row
 unfold qC at this
 rw[e,hQ.s.1,e2,hQ.k.1,e3,hQ.q.1]at this
 exact⟨a,b,d,k,k2,k3,_,_,_,this,hR,hQ.k.2.2⟩
theorem zcq{H0 H:Heap}(aj:H.lo≤H.next){p:Nat}{x y:Value}{aX:Int}{S L P:List Nat}(h:QP H0 H p x y aX S L P (List.replicate S.length true))(hS:S.length≤100000):
  af E (aC 159) [ptr p 0,.int .i64 (-1)] H fun r H'=>r= .int .i64 (-1)∧aq H H':=by
 obtain⟨a,b,d,kk,kb,kd,c5,c7,c9,e1,hR, -⟩:=h.flags
 have hp:=h.qh.p2
 obtain⟨⟨b',kb',e,⟨_,hm⟩,hl⟩, -⟩:=hR
 simp only[waq]at e
 obtain⟨rfl, -,rfl⟩:=e
 refine aQ Tryz.f159 ?_
 simp only[Tryz.f159]
 simp(disch:=omega)only[↓aa,ab,simprocAttr,sa, *]
 all_goals try omega
 refine bC H [0,1,5] (fun T5 H5 u5 k5 n5 l5 g5=>?_) bL
 try simp(disch:=omega)only[sm,sl,sI]at n5 l5 g5
 simp only[sq,simprocAttr]at u5
 refine bt kq (fun nn T X=>∃ (i:Nat),nn=S.length-i∧(T.get 5=some (.int .i64 i))∧(T.get 0=T5.get 0∧T.get 1=T5.get 1)∧Ko H5 X∧X.lo=H5.lo∧(i≤S.length)) ?_ ?_
 ·refine⟨_,0,rfl,?_,?_,Ko.refl _,rfl,wJ _⟩<;>exact ay
 rintro nn iB X5 ⟨i,rfl,m5,w5,ij,Bh,hi⟩ Qs hQ aD ai
 have fM:=k5.trans ij;have Bi:=ij.ag;have uG:=ij.objs
 have e2:=(fM.objs p hp).trans e1
 by_cases hlt:i<S.length
 ·obtain⟨r,o,cells,gg,tt,part,rfl,hr,aG,a8,rfl⟩:=hl i true (by simp[hlt])
  have a1:=bI hlt
  have e3:=(fM.objs r hr).trans aG
  have q0:=yT a8
  repeat'(first|(apply ao<;>intro)|refine az 4 [Fx,Fx,Fx,Fx,Fx,Fx,Fx,Fx,Fx,Fx,Fx,Fx,Fx,Fx,Fx,Fx,Fx,Fx,Fx,Fx,Fx,Fx,Fx,Fx,Fx,Fx,Fx,Fx] ?_|((with_reducible show Qs _ _ _ _ _);refine ai _ _ _ _ ?_)|simp(disch:=omega)only[↓aa,ab,simprocAttr,sa, *])
  all_goals try omega
  all_goals first|(refine hQ _ _ _ ?_ ⟨i+1,rfl,?_,?_,?_,?_,by omega⟩<;>exact ay)|trace_state
 ·repeat'(first|(apply ao<;>intro)|refine az 4 [Fx,Fx,Fx,Fx,Fx,Fx,Fx,Fx,Fx,Fx,Fx,Fx,Fx,Fx,Fx,Fx,Fx,Fx,Fx,Fx,Fx,Fx,Fx,Fx,Fx,Fx,Fx,Fx] ?_|((with_reducible show Qs _ _ _ _ _);refine ai _ _ _ _ ?_)|simp(disch:=omega)only[↓aa,ab,simprocAttr,sa, *])
  all_goals exact cf
theorem zcr{H0 H:Heap}(aj:H.lo≤H.next){p:Nat}{x y:Value}{aX:Int}{S L P:List Nat}(h:QP H0 H p x y aX S L P (List.replicate S.length true))(hS:S.length≤100000):
  af E (aC 113) [ptr p 0,.int .i64 1] H fun r H'=>r= .int .i64 (-1)∧aq H H':=by
 have c1:=zcq aj h hS
 refine aQ Tryz.f113 ?_
 simp only[Tryz.f113]
 repeat'(first|((with_reducible show af _ _ _ _ _);refine ak H (c1) ?_;intro H2 k2 l2 n2 g2 q2;try simp(disch:=omega)only[sm,sl,sI]at l2 n2 g2 q2)|simp(disch:=omega)only[↓aa,ab,simprocAttr,sa, *])
 all_goals exact cf
theorem QB.cut{H0 H:Heap}{p:Nat}{c:List Value}{D:Ky→dU}(h:QB H0 H p c D){n:Nat}(hn:(D (4,0)).n=n+1):∃ r m full gg,(D (4,0)).v= .slice (some ⟨r,0,none⟩) (n+1) m∧r<H.next∧H.objs.get r=some (.row full gg true)∧(∀h k:Nat,oZ 1 (some (.row full gg true)) r 0 (0,h,k) false=some (.slice (some ⟨r,0,none⟩) h k))∧n+1≤m∧m≤1000000000∧(∀j:Nat,j<n+1→full[j]? =(D (4,0)).cs[j]?)∧
  QB H0 H p c (dQ D (4,0) ⟨1,.slice (some ⟨r,0,none⟩) n m,n,(D (4,0)).cs.take n,(D (4,0)).go⟩):=by
 have hI:IQ (4,0):=⟨rfl,by decide⟩
 have hz:=h.z _ hI
 rcases h.nC.ae _ hI with q|⟨_,q,_⟩
 ·rw[hz,hn]at q
  cases hg:(D (4,0)).go with
  |none=>rw[hg]at q;have:=q.2.1;omega
  |some g=>
   rw[hg]at q
   obtain⟨r,cap,full,aS,s1,s2,s3,s4,s5,s6,s7,s8, -⟩:=id q
   rw[waY]at s4 s3
   rw[s1]at q
   have q2:=q.Pa (m:=n) (by omega)
   rw[waY]at q2
   refine⟨r,cap,full,some (g,1),s1,s8,s5,fun h k=>by rw[zD];simp,s2.1,s2.2,fun j hj=>by rw[←s4,wab,wF hj],⟨h.ko,h.lo,h.pb,h.row,h.ne,⟨fun i hi=>?_,fun i j hi hj a9=>?_⟩,fun i hi=>?_⟩⟩
   ·by_cases e:i=(4,0)
    ·rw[e,pV];exact .inl q2
    ·rw[jA D _ e];exact h.nC.ae i hi
   ·have hd:=h.nC.re i j hi hj a9
    by_cases e:i=(4,0)
    ·subst e
     rw[pV,jA D _ (wbl a9)]
     unfold dU.re at hd⊢
     rw[hg]at hd
     exact hd
    ·rw[jA D _ e]
     by_cases e2:j=(4,0)
     ·subst e2
      rw[pV]
      unfold dU.re at hd⊢
      rw[hg]at hd
      exact hd
     ·rw[jA D _ e2];exact hd
   ·by_cases e:i=(4,0)
    ·rw[e,pV]
    ·rw[jA D _ e];exact h.z i hi
 ·omega
theorem zcs(H:Heap)(aj:H.lo≤H.next){x y:Value}{g:Gr}(hG:fD H x y g)(hg:gP g)(hn:g.nodes.length≤50000)(gi:g.roots.length≤100000)(aX:Int):
  af E (aC 73) [.agg #[x,y],.int .i64 aX,.int .i64 1,.int .i64 1] H fun r H'=>∃ p S L H1,r=ptr p 0∧gM g (S++L)∧oo g aX S L∧(Ko H H1∧H1.lo=H.lo)∧QP H1 H' p x y aX S L [] (List.replicate S.length true):=by
 have mu:=hG
 have Iu:=hG.roots
 obtain⟨⟨na,nc,rfl,⟨_,pN⟩,fP⟩,_⟩:=hG.nodes
 obtain⟨⟨ra,rc,rfl,_⟩,_⟩:=hG.roots
 refine aQ Tryz.f73 ?_
 simp only[Tryz.f73]
 simp(disch:=omega)only[↓aa,ab,simprocAttr,sa,sI, *]
 all_goals try omega
 obtain⟨H1,yU⟩:∃ H1,H1=H.newRow [.slice na g.nodes.length nc,.slice ra g.roots.length rc]:=⟨_,rfl⟩
 rw[←yU]
 have k1:Ko H H1:=by rw[yU];exact bL
 have l1:H1.lo=H.lo:=by rw[yU];simp(disch:=omega)only[sm,sl,sI]
 have n1:H1.next=H.next+1:=by rw[yU];simp(disch:=omega)only[sm,sl,sI]
 have b1:H1.objs.get H.next=some (.row [.slice na g.nodes.length nc,.slice ra g.roots.length rc] none true):=by rw[yU];simp(disch:=omega)only[aA,aM,aB,aJ,aH,aI,aN,aO,aR,aP,aL,aE,aK,au,sl]
 clear yU
 have fO:QP H1 (H1.newRow (qC (.slice na g.nodes.length nc) (.slice ra g.roots.length rc) aX (fun _=>⟨1,.slice none 0 0,0,[],none⟩) 0)) (H.next+1) (.slice na g.nodes.length nc) (.slice ra g.roots.length rc) aX [] [] [] (List.replicate ([]:List Nat).length true):=
  ⟨fun _=>⟨1,.slice none 0 0,0,[],none⟩,0,⟨bL,by simp(disch:=omega)only[sm,sl,sI],⟨by omega,by simp(disch:=omega)only[sm,sl,sI];omega⟩,by rw[←n1];simp(disch:=omega)only[aA,aM,aB,aJ,aH,aI,aN,aO,aR,aP,aL,aE,aK,au,sl],by simp[qC],⟨fun i hi=> .inl (OS.nil _ _ _),fun i j _ _ _=> .inl rfl⟩,fun _ _=>rfl⟩,⟨⟨rfl,rfl⟩,rfl,⟨rfl,rfl,rfl⟩,⟨rfl,rfl⟩,⟨rfl,rfl⟩⟩,Int.le_refl _,by simp⟩
 refine af.mono (P6 H1 (by omega) (mu.ko k1) hg hn g.nodes.length _ [] [] [] [] _ g.roots (by omega) fO (Iu.ko dP.mono k1) hg.root gi (by simpa using Dn.first g) ⟨fun i hi=>(by cases hi),fun i hi=>(by cases hi)⟩ (wy _) (fun i hi=>(by cases hi))) ?_
 rintro _ Y ⟨rfl,S,L,P,hP,hD,hz, -,Bu,xl⟩
 rw[wL]at hD
 have hq:=hP.qh
 have hql:=hq.lo
 have hqn:=hq.ko.ag
 clear fO
 repeat'(first|(apply ao<;>intro)|apply bQ|refine kV (fun _=>?_) (fun _=>?_)|refine az 6 [Fx,Fx,Fx,Fx,Fx,Fx,Fx,Fx,Fx,Fx,Fx,Fx,Fx,Fx,Fx,Fx] ?_|((with_reducible show Qs _ _ _ _ _);first|refine ai _ _ _ _ ?_|refine aD _ _ _ ?_)|simp(disch:=omega)only[↓aa,ab,simprocAttr,sa,sI, *])
 all_goals try omega
 refine bC Y [2,4,9] (fun T5 H5 u5 j5 n5 l5 g5=>?_) bL
 try simp(disch:=omega)only[sm,sl,sI]at n5 l5 g5
 simp only[sq,simprocAttr]at u5
 refine bt kq (fun nn T X=>∃ (S L P:List Nat),nn=P.length+2*(g.nodes.length-L.length)∧(True)∧(T.get 2=T5.get 2∧T.get 4=T5.get 4∧T.get 9=T5.get 9)∧True∧True∧(QP H1 X (H.next+1) (.slice na g.nodes.length nc) (.slice ra g.roots.length rc) aX S L P (List.replicate S.length true)∧Dn g (S++L) (P.flatMap (dg g))∧oo g aX S L∧P.length≤L.length∧∀ i∈P,i<g.nodes.length)) ?_ ?_
 ·refine⟨_,S,L,P,rfl,?_,?_,trivial,trivial,hP.go j5 l5,hD,hz,by simpa using Nat.le_of_eq Bu.1.symm,xl⟩<;>exact ay
 clear hP hD hz Bu xl hq hql hqn
 rintro nn iB X5 ⟨S,L,P,rfl,m5,w5,_,_,hP,hD,hz,Bu,xl⟩ Qs hQ aD ai
 have h5:=hP.qh
 have Pk:=h5.ko.ag
 have Pl:=h5.lo
 have cg:=hD.len
 rw[wN]at cg
 have c1:=zcr (by omega) hP (by omega)
 rcases List.eq_nil_or_concat P with rfl|⟨P0,kx,P9⟩
 ·have hM:gM g (S++L):=Dn.done hD
  obtain⟨a,b,d,kk,kb,kd,c5,c7,c9,e1, -⟩:=hP.flags
  have oI:=h5.p2
  repeat'(first|((with_reducible show af _ _ _ _ _);refine ak X5 (c1) ?_;intro H2 k2 l2 n2 g2 q2;try simp(disch:=omega)only[sm,sl,sI]at l2 n2 g2 q2)|((with_reducible show Qs _ _ _ _ _);refine aD _ _ _ ?_)|simp(disch:=omega)only[↓aa,ab,simprocAttr,sa,sI, *])
  all_goals try omega
  exact⟨H.next+1,S,L,H1,rfl,hM,hz,⟨k1,l1⟩,hP.go k2 (by omega)⟩
 ·rw[List.concat_eq_append]at P9
  subst P9
  obtain⟨D,top,hB,gR,t1,t2⟩:=hP
  have lu:(P0++[kx]).length=P0.length+1:=by rw[wN,wbJ]
  obtain⟨r,m,full,gg,hv,hr,aG,ft,hm1,Ev,lF,Qa⟩:=hB.cut (n:=P0.length) (by rw[gR.q.1,lu])
  have e1:=hB.row
  have oI:=hB.pb.2
  have f1:full[P0.length]? =some (.int .i64 kx):=by
   rw[lF _ (by omega),gR.q.2]
   simp[dh,db]
  have I3:kx<g.nodes.length:=xl kx (by simp)
  have xn:∀ i∈P0,i<g.nodes.length:=fun i hi=>xl i (List.mem_append_left _ hi)
  have yQ:Dn g (S++L) (dg g kx++([]++P0.flatMap (dg g))):=hD.mem fun v=>by
   simp only[waI,wbd,wbm,List.flatMap_nil,waw,wL]
   exact or_comm
  have t0:(((P0.length+1:Nat):Int)-1).toNat=P0.length:=by omega
  rw[lu]at Bu
  have Qb:=fun(X:Heap) (k:Ko X5 X) (l:X.lo=X5.lo)=>(Qa.go k l).set (c':=[.slice na g.nodes.length nc,.slice ra g.roots.length rc,.int .i64 aX,.int .i64 1,(D (0,0)).v,(D (1,0)).v,(D (2,0)).v,(D (3,0)).v,.slice (some ⟨r,0,none⟩) P0.length m,.int .i64 top]) (by simp)
  have hPs:∀ X:Heap,Ko X5 X→X.lo=X5.lo→QP H1 (X.setRow (H.next+1) [.slice na g.nodes.length nc,.slice ra g.roots.length rc,.int .i64 aX,.int .i64 1,(D (0,0)).v,(D (1,0)).v,(D (2,0)).v,(D (3,0)).v,.slice (some ⟨r,0,none⟩) P0.length m,.int .i64 top]) (H.next+1) (.slice na g.nodes.length nc) (.slice ra g.roots.length rc) aX S L P0 (List.replicate S.length true):=fun X k l=>by
   have e:qC (.slice na g.nodes.length nc) (.slice ra g.roots.length rc) aX (dQ D (4,0) ⟨1,.slice (some ⟨r,0,none⟩) P0.length m,P0.length,(D (4,0)).cs.take P0.length,(D (4,0)).go⟩) top=[.slice na g.nodes.length nc,.slice ra g.roots.length rc,.int .i64 aX,.int .i64 1,(D (0,0)).v,(D (1,0)).v,(D (2,0)).v,(D (3,0)).v,.slice (some ⟨r,0,none⟩) P0.length m,.int .i64 top]:=by simp[qC,dQ]
   refine⟨(dQ D (4,0) ⟨1,.slice (some ⟨r,0,none⟩) P0.length m,P0.length,(D (4,0)).cs.take P0.length,(D (4,0)).go⟩),top,by rw[e];exact Qb X k l,⟨by simpa[dQ]using gR.s,by simpa[dQ]using gR.b,by simpa[dQ]using gR.k,by simpa[dQ]using gR.l,?_⟩,t1,t2⟩
   rw[pV,gR.q.2]
   exact⟨rfl,by simp[dh]⟩
  unfold qC at e1
  rw[hv]at e1
  have e0:=(h5.ko.objs H.next (by omega)).trans b1
  have a2:=bI I3
  obtain⟨r3,Pn,Is,g3,t3,It,rfl,rU,pO,pP,f,Po,rfl,hf,Pp⟩:=fP kx g.nodes[kx] (by simp)
  have e5:=(h5.ko.objs r3 (by omega)).trans ((k1.objs r3 rU).trans pO)
  have zct:dg g kx=g.nodes[kx].fields:=Bg (wj I3)
  have jd:=hg.node g.nodes[kx] (wam I3)
  rw[zct]at yQ
  generalize g.nodes[kx]=nd at*
  obtain⟨q3,q4,q5⟩:=vL pP
  clear hB Qb Qa lF gR pP hD
  repeat'(first|(apply ao<;>intro)|((with_reducible show af _ _ _ _ _);refine ak X5 (c1) ?_;intro H2 k2 l2 n2 g2 q2;try simp(disch:=omega)only[sm,sl,sI]at l2 n2 g2 q2)|((with_reducible show Qs _ _ _ _ _);refine aD _ _ _ ?_)|simp(disch:=omega)only[↓aa,ab,simprocAttr,sa,sI, *])
  all_goals try omega
  have hZ:=hPs H2 k2 (by omega)
  refine af.mono (P6 H1 (by omega) (mu.ko k1) hg hn g.nodes.length _ S L P0 [] _ nd.fields (by omega) hZ (hf.ko dP.mono k1) jd.2.2.2.2 (by have:=jd.2.2.1;omega) yQ hz (by omega) xn) ?_
  rintro _ W ⟨rfl,S2,L2,P2,hW,yS,I2,hcW,hPW,xm⟩
  rw[wL]at yS
  have hlW:=yS.len
  rw[wN]at hlW
  refine hQ _ _ _ ?_ ⟨S2,L2,P2,rfl,?_,?_,trivial,trivial,hW,yS,I2,by omega,xm⟩
  ·rw[lu];omega
  ·exact ay
  ·exact ay
theorem zcu(H:Heap)(aj:H.lo≤H.next){x y:Value}{g:Gr}(hG:fD H x y g)(hg:gP g)(hn:g.nodes.length≤50000)(gi:g.roots.length≤100000)(aX:Int)(hl:1≤aX):
  af E (aC 32) [.agg #[x,y],.int .i64 aX,.int .i64 1,.int .i64 1] H fun r H'=>(∃v w S L,r= .tuple #[v,w,.int .i64 0]∧gM g (S++L)∧oo g aX S L∧aZ (dd .i64) 1 H' v (dh S)∧aZ (dd .i64) 1 H' w (dh L))∧aq H H':=by
 have c1:=fun(X:Heap) (hx:X.lo≤X.next) (k:Ko H X)=>zcv X hx (hG.ko k) hg
 have c2:=fun(X:Heap) (hx:X.lo≤X.next) (k:Ko H X)=>zcs X hx (hG.ko k) hg hn gi aX
 obtain⟨⟨na,nc,rfl,_⟩,_⟩:=hG.nodes
 obtain⟨⟨ra,rc,rfl,_⟩,_⟩:=hG.roots
 refine aQ Tryz.f32 ?_
 simp only[Tryz.f32]
 repeat'(first|(apply ao<;>intro)|apply bQ|((with_reducible show af _ _ _ _ _);refine ak H (c1 _ ah bL) ?_;intro H2 k2 l2 n2 g2 q2;try simp(disch:=omega)only[sm,sl,sI]at l2 n2 g2 q2)|simp(disch:=omega)only[↓aa,ab,simprocAttr,sa,sI, *])
 all_goals try omega
 refine af.mono (c2 _ (by omega) k2) ?_
 rintro _ Z ⟨p,S,L,H1,rfl,hM,hz,⟨k1,l1⟩,hP⟩
 obtain⟨D,top,hB,gR,t1,t2⟩:=hP
 have hS:=hB.ints (by decide) gR.s.1 gR.s.2
 have hL:=hB.ints (by decide) gR.l.1 gR.l.2
 have e1:=hB.row
 have pK:=(k2.trans k1).trans hB.ko
 have hl:=hB.lo
 unfold qC at e1
 clear hB gR c1 c2
 repeat'(first|refine az 6 [Fx,Fx,Fx,Fx,Fx,Fx,Fx,Fx,Fx,Fx,Fx] ?_|simp(disch:=omega)only[↓aa,ab,simprocAttr,sa,sI, *])
 all_goals try omega
 all_goals exact⟨⟨_,_,S,L,rfl,hM,hz,hS,hL⟩,pK.same (by omega)⟩
end Go.AM
