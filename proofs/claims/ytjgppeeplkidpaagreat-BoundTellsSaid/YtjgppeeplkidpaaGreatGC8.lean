/-
  Walks over letters of the functions that the law reaches; written small by a program of mine.
-/
import Derived.Test.YtjgppeeplkidpaaGreatGK5
set_option linter.unusedVariables false
set_option linter.unusedSectionVars false
namespace Go.AM
attribute [local instance] fnMaps
open Go Go.Proofs
set_option maxRecDepth 100000
set_option maxHeartbeats 1000000
set_option linter.unusedSimpArgs false
def gK:Span→List Span→List Span
 |op,[]=>if 0<op.size then[op]else[]
 |op,s::l=>if 0<op.size∧s.ae≤op.ae+op.size then gK ⟨op.ae,(if op.ae+op.size<s.ae+s.size then s.ae+s.size else op.ae+op.size)-op.ae⟩ l else if 0<op.size then op::gK s l else gK s l
def za9(op:Span):Prop:=op=⟨0,0⟩∨bw op
theorem zba:E.fn.get 295=some Tryz.f295:=kq
theorem zal(H:Heap)(ex:List Nat)(aj:H.lo≤H.next)(bV:Nat)(v:Value)(l:List Span)(hV:H.objs.get bV=some (.row [v] none true))(lV:bV<H.next)(nV:bV∉ex)(hv:aZ bD 2 H v l)(hvx:∀ a n c,v= .slice a n c→∀ r,a=some r→r.block∉ex)(hr:sg l)(hm:∀ x∈l,bw x)(hl:l.length≤100000)(hex:∀ x:Nat,x∈ex→x<H.next)
  (y:Value) (I:List Span→Heap→Prop) (F:Heap→Prop) (H1:Heap) (sH:aq H H1) (jq:H1.next=H.next+2) (hI:∀ rest X X',I rest X→Pd (H.next+2) X X'→I rest X') (hB:∀ rest X,I rest X→fV H ex X)
  (hy:∀ v rest X,I (v::rest) X→af E y [bn v] X fun r X'=>(r= .bool true∧I rest X'∧Yd (H.next+2) ((H.next+1)::ex) X X')∨(r= .bool false∧F X'))
  (h0:I (gK ⟨0,0⟩ l) H1):af E (.func (.func 295) #[] #[ptr bV 0]) [y] H1 fun _ X=>I [] X∨F X:=by
 have e1:=(sH.objs bV lV).trans hV
 have GA:aZ bD 2 H1 v l:=hv.mono bD.mono sH
 have ng:isCell v=true:=by
  obtain⟨⟨a,c,rfl,_⟩,_⟩:=hv
  rfl
 have l1:=sH.lo
 refine AF kq zba rfl rfl ?_
 simp only[Tryz.f295]
 simp(disch:=omega)only[↓aa,ab,simprocAttr,sa,wL,wat, *]
 refine(za3 _ ah v l (GA.mono bD.mono (fx _)) hr hl).mono ?_
 rintro r H3 ⟨⟨hs,hf⟩,s3⟩
 have k3:Ko H1 H3:=(show Ko H1 (H1.newRow [Value.int .i64 0,Value.int .i64 0])from aw).call s3
 have l3:=s3.lo;have n3:=s3.ag
 have o3:=s3.objs (H.next+2) (by simp(disch:=omega)only[aA,aM,aB,aJ,aH,aI,aN,aO,aR,aP,aL,aE,aK,au,sl];omega)
 have z1:(H.next+2==H1.next)=true:=by rw[jq];exact wbq _
 simp(disch:=omega)only[sm,sl]at l3 n3 o3 hf
 rw[z1]at o3
 clear s3
 obtain⟨⟨ad,ca,rfl,⟨_,mZ⟩,bJ⟩, -⟩:=hs
 simp(disch:=omega)only[↓aa,ab,simprocAttr,sa, *]
 have i3:=hI _ _ _ h0 (aq.pd (aF:aq H1 H3) (by omega))
 refine bt kq (fun nn T X=>∃ (i:Nat) (op:Span),nn=l.length-i∧i≤l.length∧T.get 9=some (.int .i64 i)∧T.get 0=some y∧T.get 3=some (ptr (H.next+2) 0)∧T.get 7=some (.slice ad l.length ca)∧T.get 8=some (.int .i64 l.length)∧
  X.objs.get (H.next+2)=some (.row [.int .i64 op.ae,.int .i64 op.size] none true)∧za9 op∧SL bD 2 X (.slice ad l.length ca) l∧H.next+2<X.next∧I (gK op (l.drop i)) X) ⟨_,0,⟨0,0⟩,rfl,wJ _,by simp(disch:=omega)only[↓aa,ab,simprocAttr,sa,wcg,wL,wat],by simp(disch:=omega)only[↓aa,ab,simprocAttr,sa,wL,wat],by simp(disch:=omega)only[↓aa,ab,simprocAttr,sa,wL,wat],by simp(disch:=omega)only[↓aa,ab,simprocAttr,sa,wL,wat],by simp(disch:=omega)only[↓aa,ab,simprocAttr,sa,wL,wat],o3,.inl rfl,⟨ad,ca,rfl,⟨by assumption,mZ⟩,bJ⟩,by omega,i3⟩ ?_
 rintro nn T X ⟨i,op,rfl,hi,t9,t0,t3,t7,t8,fo,bW,ft,jc,ii⟩ Qs hQ aD ai
 have rb:=hB _ _ ii
 have lX:=rb.lo;have nX:=rb.ag
 have no:H.next+2∉(H.next+1)::ex:=fun hh=>by
  rcases wad.1 hh with hh|hh
  ·omega
  ·have:=hex _ hh;omega
 have O8:∀ x:Nat,x∈(H.next+1)::ex→x<H.next+2:=fun x hh=>by
  rcases wad.1 hh with rfl|hh
  ·omega
  ·have:=hex _ hh;omega
 by_cases hlt:i<l.length
 ·obtain⟨rr,o,cells,gg,tt,part,rfl,km,aG,a8,rfl⟩:=(by obtain⟨_,_,e,_,h⟩:=ft;cases e;exact h i l[i] (by simp):∃ r o cells g t part,ad=some ⟨r,o,none⟩∧r<X.next∧X.objs.get r=some (.row cells g t)∧cut cells (o+i*2) 2=some part∧bD X part l[i])
  have um:=hm l[i] (by simp)
  have zbb:=um
  unfold bw at zbb
  have a1:=bI hlt
  rw[wX hlt]at ii
  have vq:∀ x:Nat,x∈[H.next+2]→x<H.next+3:=fun x hx=>by rw[waG]at hx;omega
  have cK:op.stop=op.ae+op.size:=rfl
  have sn:l[i].stop=l[i].ae+l[i].size:=rfl
  by_cases fu:0<op.size
  ·have hmo:bw op:=bW.resolve_left fun e=>by rw[e]at fu;exact absurd fu (by decide)
   have zbc:=hmo
   unfold bw at zbc
   by_cases cp:l[i].ae≤op.ae+op.size
   ·repeat'(first|(apply ao<;>intro)|refine az 7 [Fx,Fx,Fx,Fx,Fx,Fx,Fx,Tx,Fx,Fx,Fx] ?_|refine az 8 [Fx,Tx,Fx,Tx,Fx,Fx,Fx,Fx,Fx,Fx] ?_|((with_reducible show af _ _ _ _ _);(first|refine ak X (qL _ ah l[i]) ?_|refine ak X (qM _ ah op (by assumption)) ?_|refine ak X (qM _ ah l[i] (by assumption)) ?_);intro H2 k2 l2 n2 g2 q2;try simp(disch:=omega)only[sm,sl]at l2 n2 g2 q2)|((with_reducible show Qs _ _ _ _ _);refine ai _ _ _ _ ?_)|simp(disch:=omega)only[↓aa,ab,simprocAttr,sa,builtin_max, *])
    all_goals try omega
    rw[gK,wF ⟨fu,cp⟩]at ii
    refine hQ _ _ _ ?_ ⟨i+1,⟨op.ae,(if op.ae+op.size<l[i].ae+l[i].size then l[i].ae+l[i].size else op.ae+op.size)-op.ae⟩,rfl,by omega,?_,?_,?_,?_,?_,?_,.inr (by unfold bw;simp only;split<;>omega),?_,?_,?_⟩
    ·omega
    iterate 5 exact ay
    ·simp(disch:=omega)only[aA,aM,aB,aJ,aH,aI,aN,aO,aR,aP,aL,aE,aK,au,sl]
    ·refine ft.yd (fun _ _ _ _ h=>h) (hf.le (by omega)) vq (Yd.setRow (aq.yd ?_ (by omega)) (waG.2 rfl) _);exact aF
    ·simp(disch:=omega)only[aA,aM,aB,aJ,aH,aI,aN,aO,aR,aP,aL,aE,aK,au,sl];omega
    ·refine hI _ _ _ ii (Pd.setRow (aq.pd ?_ (by omega)) (by omega) ⟨[.int .i64 op.ae,.int .i64 op.size],true,?_⟩ _);exact aF;(simp(disch:=omega)only[aA,aM,aB,aJ,aH,aI,aN,aO,aR,aP,aL,aE,aK,au,sl, *])
   ·repeat'(first|(apply ao<;>intro)|refine az 7 [Fx,Fx,Fx,Fx,Fx,Fx,Fx,Tx,Fx,Fx,Fx] ?_|((with_reducible show af _ _ _ _ _);(first|refine ak X (qL _ ah l[i]) ?_|refine ak X (qM _ ah op (by assumption)) ?_);intro H2 k2 l2 n2 g2 q2;try simp(disch:=omega)only[sm,sl]at l2 n2 g2 q2)|((with_reducible show Qs _ _ _ _ _);refine ai _ _ _ _ ?_)|simp(disch:=omega)only[↓aa,ab,simprocAttr,sa, *])
    all_goals try omega
    rw[gK,wI (by omega),wF fu]at ii
    refine uz hI hy ii aF nX ?_ ?_
    ·intro X' h1 h2
     have f1:=h2.alone (H.next+2) [.int .i64 op.ae,.int .i64 op.size] true (by simp(disch:=omega)only[aA,aM,aB,aJ,aH,aI,aN,aO,aR,aP,aL,aE,aK,au,sl];omega) no (by simp(disch:=omega)only[aA,aM,aB,aJ,aH,aI,aN,aO,aR,aP,aL,aE,aK,au,sl, *])
     have f2:=h2.alone X.next [.int .i64 l[i].ae,.int .i64 l[i].size] true (by simp(disch:=omega)only[aA,aM,aB,aJ,aH,aI,aN,aO,aR,aP,aL,aE,aK,au,sl];omega) (fun hh=>by have:=O8 _ hh;omega) (by simp(disch:=omega)only[aA,aM,aB,aJ,aH,aI,aN,aO,aR,aP,aL,aE,aK,au,sl, *])
     have O9:=(ft.mono bD.mono (aF:aq X (H2.cd H.lo))).yd (fun _ _ _ _ h=>h) (hf.le (by omega)) O8 h2
     have lY:=h2.lo;have nY:=h2.ag
     simp(disch:=omega)only[sm,sl]at lY nY
     clear h2
     simp(disch:=omega)only[↓aa,ab,simprocAttr,sa, *]
     refine hQ _ _ _ ?_ ⟨i+1,l[i],rfl,by omega,?_,?_,?_,?_,?_,?_,.inr um,?_,?_,?_⟩
     ·omega
     iterate 5 exact ay
     ·simp(disch:=omega)only[aA,aM,aB,aJ,aH,aI,aN,aO,aR,aP,aL,aE,aK,au,sl]
     ·refine O9.yd (fun _ _ _ _ h=>h) (hf.le (by omega)) vq (Yd.setRow (aq.yd ?_ (by omega)) (waG.2 rfl) _);exact aF
     ·simp(disch:=omega)only[aA,aM,aB,aJ,aH,aI,aN,aO,aR,aP,aL,aE,aK,au,sl];omega
     ·refine hI _ _ _ h1 (Pd.setRow (aq.pd ?_ (by omega)) (by omega) ⟨[.int .i64 op.ae,.int .i64 op.size],true,?_⟩ _);exact aF;(simp(disch:=omega)only[aA,aM,aB,aJ,aH,aI,aN,aO,aR,aP,aL,aE,aK,au,sl, *])
    ·intro X' h1
     repeat'(first|((with_reducible show Qs _ _ _ _ _);refine aD _ _ _ ?_)|simp(disch:=omega)only[↓aa,ab,simprocAttr,sa, *])
     exact .inr trivial
  ·repeat'(first|(apply ao<;>intro)|refine az 7 [Fx,Fx,Fx,Fx,Fx,Fx,Fx,Tx,Fx,Fx,Fx] ?_|((with_reducible show af _ _ _ _ _);refine ak X (qL _ ah l[i]) ?_;intro H2 k2 l2 n2 g2 q2;try simp(disch:=omega)only[sm,sl]at l2 n2 g2 q2)|((with_reducible show Qs _ _ _ _ _);refine ai _ _ _ _ ?_)|simp(disch:=omega)only[↓aa,ab,simprocAttr,sa, *])
   all_goals try omega
   rw[gK,wI (by omega),wI fu]at ii
   refine hQ _ _ _ ?_ ⟨i+1,l[i],rfl,by omega,?_,?_,?_,?_,?_,?_,.inr um,?_,?_,?_⟩
   ·omega
   iterate 5 exact ay
   ·simp(disch:=omega)only[aA,aM,aB,aJ,aH,aI,aN,aO,aR,aP,aL,aE,aK,au,sl]
   ·refine ft.yd (fun _ _ _ _ h=>h) (hf.le (by omega)) vq (Yd.setRow (aq.yd ?_ (by omega)) (waG.2 rfl) _);exact aF
   ·simp(disch:=omega)only[aA,aM,aB,aJ,aH,aI,aN,aO,aR,aP,aL,aE,aK,au,sl];omega
   ·refine hI _ _ _ ii (Pd.setRow (aq.pd ?_ (by omega)) (by omega) ⟨[.int .i64 op.ae,.int .i64 op.size],true,?_⟩ _);exact aF;(simp(disch:=omega)only[aA,aM,aB,aJ,aH,aI,aN,aO,aR,aP,aL,aE,aK,au,sl, *])
 ·repeat'(first|(apply ao<;>intro)|((with_reducible show Qs _ _ _ _ _);refine ai _ _ _ _ ?_)|simp(disch:=omega)only[↓aa,ab,simprocAttr,sa, *])
  all_goals try omega
  ·have e0:i=l.length:=by omega
   rw[e0,wbF,gK,wF (by omega)]at ii
   refine uz hI hy ii (aq.refl _) nX ?_ ?_
   ·intro X' h1 h2
    simp(disch:=omega)only[↓aa,ab,simprocAttr,sa, *]
    exact .inl trivial
   ·intro X' h1
    simp(disch:=omega)only[↓aa,ab,simprocAttr,sa, *]
    exact .inr trivial
  ·have e0:i=l.length:=by omega
   rw[e0,wbF,gK,wI (by omega)]at ii
   exact .inl ii
def gC(l:List mn):List Int:=(l.filter (!·.last)).map (·.ae)
def db(n:Int):Value:= .int .i64 n
theorem HV{ws:List Nat}{top:Int}:∀ (n:Nat) (p:Int),0≤p→(gC (dO ws top n p)).length≤ws.length-p.toNat
 |0,p,_=>wJ _
 |n+1,p,h=>by
  rw[dO]
  split
  ·split
   ·rename_i h2
    have h3:=(kE (qT h2).1).2.1
    have h4:=vZ (qT h2).1
    have:=HV (ws:=ws) (top:=top) n (p+cu (aT ws p)) (by omega)
    simp only[gC,wce,wb0,wah,wbk,wY]at this⊢
    omega
   ·exact wJ _
  ·exact wJ _
def iR(ws:List Nat)(s:Span)(top:Int):List Int×Int:=if(mo ws s top).2=0 then(gC (dO ws top (top-s.ae).toNat s.ae),0)else([],(mo ws s top).2)
theorem b8.pd{B b z n:Nat}{v:Value}{cs:List Value}{f:Option (Nat×Nat)}{X X':Heap}(h:b8 b z X v n cs f)(p:Pd B X X'):b8 b z X' v n cs f:=by
 refine h.cz p.ag fun r g e=>?_
 subst e
 obtain⟨_,_,_,h3,_,h5,aS,h6,h7⟩:=h
 exact⟨(p.bH r _ _ _ h3 h6).trans h6.symm,p.grps g h5⟩
theorem b8.DX{b z n l:Nat}{v:Value}{cs:List Value}{f:Option (Nat×Nat)}{X X':Heap}(h:b8 b z X v n cs f)(p:pw l X X')(hl:l<b):b8 b z X' v n cs f:=by
 refine h.cz (by rw[p.next];exact wy _) fun r g e=>?_
 subst e
 obtain⟨_,_,h2,h3,_,h5,aS,h6,h7⟩:=h
 exact⟨p.objs r (by omega),p.grps g⟩
theorem D8(H:Heap)(l:List Int):dD (dd .i64) 1 H (l.map db) l:=by
 refine⟨by simp,fun i x hx=>⟨[db x],?_,rfl⟩⟩
 have hi:=(wD.1 hx).1
 rw[dB,wF (by rw[wO];omega),waY,List.take_one,List.head?_drop,war,hx]
 rfl
theorem b8.qV{b k lo:Nat}{X:Heap}{v:Value}{l:List Int}{f:Option (Nat×Nat)}{gr:Tr (List Nat)}(h:b8 b 1 X v l.length (l.map db) f)(hk:k<b)(hl:l.length≤9223372036854775807):aZ (dd .i64) 1 ⟨X.objs.del k,gr,X.next,lo⟩ v l:=by
 obtain⟨_,h⟩:=h
 match f,h with
 |none,⟨h1,h2⟩=>
  have:l=[]:=wac h2
  subst h1 this
  exact aZ.nil
 |some (r,g),⟨h1,h2,h3,_,_,aS,h6,_⟩=>
  subst h1
  exact aZ.row (fun _ _ _ _ _ h=>h) h3 ((uq _ _ _ (by omega)).trans h6) (D8 _ l) ⟨wy _,fun x cells g t _ ho=>⟨t,ho⟩⟩ hl
theorem b8.fresh{b z n:Nat}{X:Heap}{v:Value}{cs:List Value}{f:Option (Nat×Nat)}(h:b8 b z X v n cs f):jl b v:=by
 obtain⟨_,h⟩:=h
 match f,h with
 |none,⟨h1,_⟩=>subst h1;exact jl.nil _ _ _
 |some (r,g),⟨h1,h2,_⟩=>subst h1;exact jl.mk _ _ _ _ h2
theorem za8:E.fn.get 239=some Tryz.f239:=kq
theorem zaG(H:Heap)(aj:H.lo≤H.next){a rw g:Nat}{ws:List Nat}(lE:Ar H a rw g ws)(s:Span)(top:Int):af E (aC 239) [ptr a 0,bn s,.int .i64 top] H fun r H'=>∃ v,r= .tuple #[v,.int .i64 (iR ws s top).2]∧(aZ (dd .i64) 1 H' v (iR ws s top).1∧jl H.next v)∧aq H H':=by
 refine DB kq za8 rfl rfl ?_
 simp only[Tryz.f239,bn]
 by_cases he:(mo ws s top).2=0
 case neg=>
  have e:iR ws s top=([],(mo ws s top).2):=wI he
  repeat'(first|((with_reducible show af _ _ _ _ _);refine ak H (O7 _ ah (lE.same aw) s top) ?_;intro H2 k2 l2 n2 g2 q2;try simp(disch:=omega)only[sm,sl]at l2 n2 g2 q2)|simp(disch:=omega)only[↓aa,ab,simprocAttr,sa,wL,waw, *])
  all_goals try contradiction
  refine⟨_,rfl,?_⟩
  repeat'(first|refine ao (fun _=>?_) (fun _=>?_)|apply bQ|refine kV (fun _=>?_) (fun _=>?_)|simp(disch:=omega)only[↓aa,ab,simprocAttr,sa, *])
  exact⟨_,rfl,⟨aZ.nil,jl.nil _ _ _⟩,AP aw rfl rfl⟩
 repeat'(first|((with_reducible show af _ _ _ _ _);refine ak H (O7 _ ah (lE.same aw) s top) ?_;intro H2 k2 l2 n2 g2 q2;try simp(disch:=omega)only[sm,sl]at l2 n2 g2 q2)|simp(disch:=omega)only[↓aa,ab,simprocAttr,sa,wL,waw, *])
 have hmt:bw s∧s.ae≤top∧top≤s.stop:=by
  refine wbK fun hn=>?_
  have:mo ws s top=(0,1):=wI hn
  rw[this]at he
  cases he
 obtain⟨hm,ht⟩:=hmt
 unfold bw at hm
 unfold Span.stop at ht
 have e:iR ws s top=(gC (dO ws top (top-s.ae).toNat s.ae),0):=wF he
 have cg:=HV (ws:=ws) (top:=top) (top-s.ae).toNat s.ae (by omega)
 have fG:=lE.len
 generalize cK:dO ws top (top-s.ae).toNat s.ae=zs at e cg
 refine(O6 _ ah a s top).mono ?_
 rintro r H3 ⟨rfl,b1,b2,b3,n3,s3⟩
 have k3:Ko H H3:=(show Ko H (H2.newRow [Value.slice none 0 0])from aw).call s3
 have l3:=s3.lo
 have c0:=s3.objs H2.next (by simp(disch:=omega)only[aA,aM,aB,aJ,aH,aI,aN,aO,aR,aP,aL,aE,aK,au,sl];omega)
 simp(disch:=omega)only[sm,sl]at b1 b2 b3 n3 l3 c0
 clear s3
 have uA:=lE.same k3
 refine CO (enc:=AW) (xs:=zs) (g:=309) (first:= #[]) (cap:= #[ptr (H2.next+1+1) 0,ptr (H2.next+1+1+1) 0,ptr (H2.next+1) 0])
  (J:=fun rest X=>∃ v f done,X.objs.get H2.next=some (.row [v] none true)∧b8 (H3.next+2) 1 X v done.length (done.map db) f∧done++gC rest=gC zs)
  (R:=fun X=>False) (ex:=[H2.next]) ?_ (by omega) ?_ ?_ (fun _ _=>by kernel_rfl) (fun _ _ _=>by kernel_rfl) ?_ ?_ ?_ ?_ ?_ ?_ ?_ ?_
 ·intro x hx;simp only[wad,wbb,wck]at hx;omega
 ·simp(disch:=omega)only[↓aa,ab,simprocAttr,n3]
 ·exact wap rfl
 ·rintro rest X X' ⟨v,f,done,h1,h2,h3⟩ rb pd
  exact⟨v,f,done,(pd.objs _ (by omega)).trans h1,h2.pd pd,h3⟩
 ·rintro rest X X' ⟨v,f,done,h1,h2,h3⟩ of
  exact⟨v,f,done,(of.objs _ (by omega)).trans h1,h2.DX of (by omega),h3⟩
 ·intro X X' h;exact h.elim
 ·intro X rb sX
  exact⟨_,none,[],(sX.objs _ (by omega)).trans c0,b8.nil _ _ _,rfl⟩
 ·intro y I F H1 sH jq hI hB hy h0
  have hx:∀ x:Nat,x=H2.next↔x∈[H2.next]:=fun x=>by simp
  refine O5 H3 [H2.next] (by omega) (H2.next+1+1) (H2.next+1+1+1) (H2.next+1) a rw g s top ws b2 b3 b1 uA (by omega) (by omega) (by omega) ?_ ?_ ?_ ?_ ?_ ?_ ⟨by omega,by omega⟩ ⟨by omega,by omega⟩ y I F H1 sH jq hI hB hy (by rw[cK];exact h0)
  iterate 5 (rw[←hx];have:=lE.la;have:=lE.lw;omega)
  intro x hh
  rw[←hx]at hh
  omega
 ·rintro v rest X ⟨sv,f,done,h1,h2,h3⟩ rb
  have lX:=rb.lo;have nX:=rb.ag
  simp only[AW]
  simp(disch:=omega)only[↓aa,ab,simprocAttr,sa, *]
  refine⟨aF,fun X2 of=>?_⟩
  have o1:=of.next;have o2:=of.lo
  have o3:=of.objs X.next (by omega)
  have o4:=of.objs H2.next (by omega)
  have h2:=(h2.same (aF:aq X _)).DX of (by omega)
  simp(disch:=omega)only[sm,sl]at o1 o2 o3 o4
  clear of
  cases hl:v.last with
  |true=>
   simp(disch:=omega)only[↓aa,ab,simprocAttr,sa, *]
   rw[n3]at h2
   exact⟨Yd.refl _ _ X2,.inl ⟨sv,f,done,rfl,h2,by rw[←h3];simp[gC,hl]⟩⟩
  |false=>
   have h4:gC (v::rest)=v.ae::gC rest:=by simp[gC,hl]
   rw[h4]at h3
   have h5:=congrArg List.length h3
   simp only[wN,wY]at h5
   obtain⟨H9,f9,di,pG,kH,uu,_⟩:=qJ (bytes:=8) (k:=1) (new:=[db v.ae]) (h2.same (fx [db v.ae])) (by simp(disch:=omega)only[aA,aM,aB,aJ,aH,aI,aN,aO,aR,aP,aL,aE,aK,au,sl];omega) (by simp(disch:=omega)only[aA,aM,aB,aJ,aH,aI,aN,aO,aR,aP,aL,aE,aK,au,sl];omega) (by omega) rfl rfl (by simp[ed,lM,cC];omega)
   have y9:Yd (H3.next+2) [H2.next] X2 H9:=((fx [db v.ae]).yd (by omega)).grown kH (wy _)
   have d9:=kH.alone H2.next [sv] true (by simp(disch:=omega)only[aA,aM,aB,aJ,aH,aI,aN,aO,aR,aP,aL,aE,aK,au,sl];omega) (by simp(disch:=omega)only[aA,aM,aB,aJ,aH,aI,aN,aO,aR,aP,aL,aE,aK,au,sl,o4,h1])
   have l9:=kH.lo
   simp(disch:=omega)only[sm,sl]at di uu l9
   clear kH
   simp only[db]at di
   simp(disch:=omega)only[↓aa,ab,simprocAttr,sa,cC,iN,eF,wL,wat,wY,waA,waV,waZ, *]
   rw[n3]at y9
   refine⟨y9.setRow (by simp) _,.inl ⟨_,f9,done++[v.ae],rfl,?_,by rw[waP];exact h3⟩⟩
   rw[←n3]
   have e9:(done++[v.ae]).map db=done.map db++[db v.ae]:=by simp
   have e8:(done++[v.ae]).length=done.length+1:=by simp
   rw[e9,e8]
   simp only[aB,o1]at pG
   refine pG.cz (by simp(disch:=omega)only[aA,aM,aB,aJ,aH,aI,aN,aO,aR,aP,aL,aE,aK,au,sl];omega) fun r g e=>?_
   subst e
   obtain⟨_,_,q2,_⟩:=pG
   exact⟨by rw[aA,au (by omega)];rfl,rfl⟩
 ·rintro X ⟨sv,f,done,h1,h2,h3⟩ rb
  have lX:=rb.lo;have nX:=rb.ag
  have dX:=rb.vy
  rw[n3]at dX
  simp(disch:=omega)only[↓aa,ab,simprocAttr,sa, *]
  refine⟨_,Au dX (by omega),sv,rfl,?_,?_⟩
  ·have vn:done=gC zs:=by rw[←h3];simp[gC]
   rw[←vn]
   exact⟨h2.qV (by omega) (by rw[vn];omega),h2.fresh.le (by have:=k3.ag;omega)⟩
  ·exact AQ (rb.ko k3 (by intro x hx;simp only[wad,wbb,wck]at hx;omega)) (by omega) rfl rfl
 ·intro X h;exact h.elim
theorem zak(H:Heap)(aj:H.lo≤H.next)(v:Value)(hv:isCell v=true)(hv2:cj v=[v]):af E (aC 258) [v] H fun r H'=>r= .func (.func 295) #[] #[ptr H.next 0]∧H'.objs.get H.next=some (.row [v] none true)∧H'.next=H.next+1∧aq H H':=by
 refine aQ Tryz.f258 ?_
 simp only[Tryz.f258]
 simp(disch:=omega)only[↓aa,ab,simprocAttr,sa,DK,GQ,DM,DL, *]
 exact aF
def qR(all x:Span):Prop:=bw x∧all.ae≤x.ae∧x.ae+x.size≤all.ae+all.size
theorem DW{all:Span}(ha:bw all):∀ (l:List Span) (op:Span),(∀x∈l,qR all x)→(op=⟨0,0⟩∨qR all op)→∀ r∈gK op l,qR all r
 |[],op,_,ho,r,hr=>by
  unfold gK at hr
  split at hr
  ·rw[waG]at hr
   subst hr
   rename_i h
   exact ho.resolve_left fun e=>by rw[e]at h;exact absurd h (by decide)
  ·cases hr
 |s::l,op,hl,ho,r,hr=>by
  have hs:=hl s (wW ..)
  have ia:∀ x∈l,qR all x:=fun x hx=>hl x (wM _ hx)
  unfold gK at hr
  split at hr
  ·rename_i h
   have h2:=ho.resolve_left fun e=>by rw[e]at h;exact absurd h.1 (by decide)
   refine DW ha l _ ia (.inr ?_) r hr
   unfold qR bw at*
   simp only
   split<;>omega
  ·split at hr
   ·rename_i h
    have h2:=ho.resolve_left fun e=>by rw[e]at h;exact absurd h (by decide)
    rcases wad.1 hr with rfl|hr
    ·exact h2
    ·exact DW ha l _ ia (.inr hs) r hr
   ·exact DW ha l _ ia (.inr hs) r hr
theorem Hw:∀ (l:List Span) (op:Span),(gK op l).length≤l.length+1
 |[],op=>by unfold gK;split<;>simp
 |s::l,op=>by
  unfold gK
  split
  ·have:=Hw l ⟨op.ae,(if op.ae+op.size<s.ae+s.size then s.ae+s.size else op.ae+op.size)-op.ae⟩
   simp only[wY];omega
  ·have:=Hw l s
   split<;>simp only[wY]<;>omega
def nh(all:Span)(p:Int):List Span→List Span
 |[]=>if p<all.ae+all.size then[⟨p,all.ae+all.size-p⟩]else[]
 |s::l=>(if p<s.ae then[⟨p,s.ae-p⟩]else[])++nh all (if p<s.ae+s.size then s.ae+s.size else p) l
def sj(all:Span)(l:List Span):List Span:=if bw all then nh all all.ae (gK ⟨0,0⟩ l)else[]
def b9(s:Span):List Value:=[.int .i64 s.ae,.int .i64 s.size]
theorem D9:∀ (l:List Span) (i:Nat) (x:Span),l[i]? =some x→cut (l.flatMap b9) (i*2) 2=some (b9 x)
 |[],_,_,h=>by simp at h
 |s::l,0,x,h=>by
  simp only[wQ,wi]at h
  subst h
  rw[dB,wF (by simp[b9])]
  rfl
 |s::l,i+1,x,h=>by
  have:=D9 l i x (by simpa using h)
  rw[dB]at this⊢
  split at this
  ·rename_i hh
   rw[wF (by simp[b9]at hh ⊢;omega),←this]
   simp only[wbm,b9,wat,wL,waW,waV]
  ·cases this
theorem v7(H:Heap)(l:List Span):dD bD 2 H (l.flatMap b9) l:=by
 refine⟨?_,fun i x hx=>⟨b9 x,D9 l i x hx,rfl⟩⟩
 induction l with
 |nil=>rfl
 |cons x l ih=>simp[b9,ih];try omega
theorem b8.OJ{b k lo:Nat}{X:Heap}{v:Value}{l:List Span}{f:Option (Nat×Nat)}{gr:Tr (List Nat)}(h:b8 b 2 X v l.length (l.flatMap b9) f)(hk:k<b)(hl:l.length≤9223372036854775807):aZ bD 2 ⟨X.objs.del k,gr,X.next,lo⟩ v l:=by
 obtain⟨_,h⟩:=h
 match f,h with
 |none,⟨h1,h2⟩=>
  have:l=[]:=wac h2
  subst h1 this
  exact aZ.nil
 |some (r,g),⟨h1,h2,h3,_,_,aS,h6,_⟩=>
  subst h1
  exact aZ.row bD.mono h3 ((uq _ _ _ (by omega)).trans h6) (v7 _ l) ⟨wy _,fun x cells g t _ ho=>⟨t,ho⟩⟩ hl
theorem b8.setRow{b z n x:Nat}{v:Value}{cs c:List Value}{f:Option (Nat×Nat)}{X:Heap}(h:b8 b z X v n cs f)(hx:x<b):b8 b z (X.setRow x c) v n cs f:=by
 refine h.cz (wy _) fun r g e=>?_
 subst e
 obtain⟨_,_,h2,_⟩:=h
 exact⟨by rw[aA,au (by omega)];rfl,rfl⟩
theorem Ko.grown{b:Nat}{H Y Z:Heap}(k:Ko H Y)(g:Grown b Y Z)(hb:H.next≤b):Ko H Z:=
 ⟨wK k.ag g.ag,fun x hx=>((g.below x (by omega)).1).trans (k.objs x hx),fun x hx=>((g.below x (by omega)).2).trans (k.grps x hx)⟩
theorem zai:E.fn.get 253=some Tryz.f253:=kq
theorem zaj(H:Heap)(aj:H.lo≤H.next)(all:Span)(v:Value)(l:List Span)(hv:aZ bD 2 H v l)(hr:sg l)(hw:∀ x∈l,qR all x)(hl:l.length≤100000):af E (aC 253) [bn all,v] H fun r H'=>aZ bD 2 H' r (sj all l)∧aq H H':=by
 have ng:isCell v=true∧cj v=[v]:=by
  obtain⟨⟨a,c,rfl,_⟩,_⟩:=hv
  exact⟨rfl,rfl⟩
 refine DB kq zai rfl rfl ?_
 simp only[Tryz.f253,bn]
 by_cases hm:bw all
 case neg=>
  have e:sj all l=[]:=wI hm
  repeat'(first|((with_reducible show af _ _ _ _ _);refine ak H (qL _ ah all) ?_;intro H2 k2 l2 n2 g2 q2;try simp(disch:=omega)only[sm,sl]at l2 n2 g2 q2)|simp(disch:=omega)only[↓aa,ab,simprocAttr,sa,wL,waw, *])
  refine⟨_,rfl,?_⟩
  repeat'(first|refine ao (fun _=>?_) (fun _=>?_)|apply bQ|refine kV (fun _=>?_) (fun _=>?_)|refine az 7 [Fx,Fx,Fx,Tx,Fx] ?_|refine az 10 [Fx,Fx,Tx,Fx,Fx] ?_|refine az 11 [Fx,Fx,Tx,Fx] ?_|refine az 12 [Fx,Fx,Fx,Tx,Fx,Fx,Fx,Fx,Fx,Fx] ?_|simp(disch:=omega)only[↓aa,ab,simprocAttr,sa, *])
  exact⟨aZ.nil,AP aw rfl rfl⟩
 have e:sj all l=nh all all.ae (gK ⟨0,0⟩ l):=wF hm
 have eE:=hm
 unfold bw at eE
 have OI:=DW hm l ⟨0,0⟩ hw (.inl rfl)
 have cg:=Hw l ⟨0,0⟩
 generalize hrs:gK ⟨0,0⟩ l=rs at e OI cg
 repeat'(first|((with_reducible show af _ _ _ _ _);refine ak H (qL _ ah all) ?_;intro H2 k2 l2 n2 g2 q2;try simp(disch:=omega)only[sm,sl]at l2 n2 g2 q2)|simp(disch:=omega)only[↓aa,ab,simprocAttr,sa,wL,waw, *])
 obtain⟨Hm,rfl⟩:∃ Hm,Hm=H2:=⟨_,rfl⟩
 refine(zak _ ah v ng.1 ng.2).mono ?_
 rintro r H3 ⟨rfl,b1,n3,s3⟩
 have k3:Ko H H3:=Ko.call aw s3
 have l3:=s3.lo
 have c2:=s3.objs H.next (by simp(disch:=omega)only[aA,aM,aB,aJ,aH,aI,aN,aO,aR,aP,aL,aE,aK,au,sl];omega)
 have c5:=s3.objs Hm.next (by simp(disch:=omega)only[aA,aM,aB,aJ,aH,aI,aN,aO,aR,aP,aL,aE,aK,au,sl];omega)
 have c6:=s3.objs (Hm.next+1) (by simp(disch:=omega)only[aA,aM,aB,aJ,aH,aI,aN,aO,aR,aP,aL,aE,aK,au,sl];omega)
 simp(disch:=omega)only[sm,sl]at b1 n3 l3 c2 c5 c6
 rw[g2 _ (by omega)]at c2
 simp(disch:=omega)only[sm,sl]at c2
 clear s3
 have hv3:aZ bD 2 H3 v l:=⟨hv.1.ext bD.mono k3.ext,fun a n c ee=>(hv.2 a n c ee).elim .inl fun⟨r,cells,g,t,h1,h2,h3⟩=> .inr ⟨r,cells,g,t,h1,by have:=k3.ag;omega,(k3.objs r h2).trans h3⟩⟩
 refine CO (enc:=bn) (xs:=rs) (g:=295) (first:= #[]) (cap:= #[ptr (Hm.next+1+1) 0])
  (J:=fun rest X=>∃ v f done p,X.objs.get Hm.next=some (.row [v] none true)∧X.objs.get (Hm.next+1)=some (.row [.int .i64 p] none true)∧b8 (H3.next+2) 2 X v done.length (done.flatMap b9) f∧done++nh all p rest=nh all all.ae rs∧(∀x∈rest,qR all x)∧done.length+rest.length≤rs.length∧0≤p∧p≤1099511627776)
  (R:=fun X=>False) (ex:=[Hm.next,Hm.next+1]) ?_ (by omega) ?_ ?_ (fun _ _=>by kernel_rfl) (fun _ _ _=>by kernel_rfl) ?_ ?_ ?_ ?_ ?_ ?_ ?_ ?_
 ·intro x hx;simp only[wad,wbb,wck]at hx;omega
 ·simp(disch:=omega)only[↓aa,ab,simprocAttr,n3]
 ·exact wap rfl
 ·rintro rest X X' ⟨v,f,done,p,h1,h2,h3,h4⟩ rb pd
  exact⟨v,f,done,p,(pd.objs _ (by omega)).trans h1,(pd.objs _ (by omega)).trans h2,h3.pd pd,h4⟩
 ·rintro rest X X' ⟨v,f,done,p,h1,h2,h3,h4⟩ of
  exact⟨v,f,done,p,(of.objs _ (by omega)).trans h1,(of.objs _ (by omega)).trans h2,h3.DX of (by omega),h4⟩
 ·intro X X' h;exact h.elim
 ·intro X rb sX
  exact⟨_,none,[],all.ae,(sX.objs _ (by omega)).trans c5,(sX.objs _ (by omega)).trans c6,b8.nil _ _ _,rfl,OI,by simp,by omega,by omega⟩
 ·intro y I F H1 sH jq hI hB hy h0
  have hx:∀ x:Nat,x∈[Hm.next,Hm.next+1]→x=Hm.next∨x=Hm.next+1:=fun x h=>by simpa using h
  refine zal H3 [Hm.next,Hm.next+1] (by omega) (Hm.next+1+1) v l b1 (by omega) (fun h=>by have:=hx _ h;omega) hv3 ?_ hr (fun x h=>(hw x h).1) hl (fun x h=>by have:=hx _ h;omega) y I F H1 sH jq hI hB hy (by rw[hrs];exact h0)
  rintro a n c ee r rfl h
  rcases hv.2 _ n c ee with h1|⟨r',_,_,_,h1,h2,_⟩
  ·cases h1
  ·cases h1
   have:=hx _ h
   simp only at this
   omega
 ·rintro x rest X ⟨sv,f,done,p,h1,h2,h3,h4,h5,h6,h7,h8⟩ rb
  have lX:=rb.lo;have nX:=rb.ag
  have zam:=h5 x (wW ..)
  obtain⟨ur,Hz,tY⟩:=zam
  have zan:=ur
  unfold bw at zan
  have a2:=rb.objs H.next (by omega) (by simp;omega)
  simp only[bn]
  simp(disch:=omega)only[↓aa,ab,simprocAttr,sa, *]
  refine⟨aF,fun X2 of=>?_⟩
  have o1:=of.next;have o2:=of.lo
  have o3:=of.objs X.next (by omega)
  have o4:=of.objs Hm.next (by omega)
  have o5:=of.objs (Hm.next+1) (by omega)
  have o6:=of.objs H.next (by omega)
  have h3:=(h3.same (aF:aq X _)).DX of (by omega)
  simp(disch:=omega)only[sm,sl]at o1 o2 o3 o4 o5 o6
  clear of
  have cK:all.stop=all.ae+all.size:=rfl
  have sn:x.stop=x.ae+x.size:=rfl
  by_cases rA:p<x.ae
  ·rw[nh,wF rA]at h4
   repeat'(first|refine ao (fun _=>?_) (fun _=>?_)|refine az 7 [Fx,Fx,Fx,Tx,Fx] ?_|((with_reducible show af _ _ _ _ _);refine ak X2 (qM _ ah all (by assumption)) ?_;intro H2 k2 l2 n2 g2 q2;try simp(disch:=omega)only[sm,sl]at l2 n2 g2 q2)|simp(disch:=omega)only[↓aa,ab,simprocAttr,sa, *])
   all_goals try omega
   obtain⟨Hk,rfl⟩:∃ Hk,Hk=H2:=⟨_,rfl⟩
   have s2:aq X2 (Hk.cd H.lo):=aF
   have HA:=s2.ag
   have p5:=s2.objs Hm.next (by omega);have p6:=s2.objs (Hm.next+1) (by omega);have p7:=s2.objs X.next (by omega)
   simp(disch:=omega)only[sm,sl]at HA p5 p6 p7
   simp only[wY]at h6
   obtain⟨H9,f9,di,pG,kH,uu,_⟩:=qJ (bytes:=16) (k:=1) (new:=b9 ⟨p,x.ae-p⟩) ((h3.same s2).same (fx (b9 ⟨p,x.ae-p⟩))) (by simp(disch:=omega)only[aA,aM,aB,aJ,aH,aI,aN,aO,aR,aP,aL,aE,aK,au,sl];omega) (by simp(disch:=omega)only[aA,aM,aB,aJ,aH,aI,aN,aO,aR,aP,aL,aE,aK,au,sl];omega) (by omega) rfl rfl (by simp[ed,lM,cC];omega)
   have y9:Yd (H3.next+2) [Hm.next,Hm.next+1] X2 H9:=((s2.yd (by omega)).trans ((fx (b9 ⟨p,x.ae-p⟩)).yd (by simp(disch:=omega)only[aA,aM,aB,aJ,aH,aI,aN,aO,aR,aP,aL,aE,aK,au,sl];omega))).grown kH (wy _)
   have d5:=kH.alone Hm.next [sv] true (by simp(disch:=omega)only[aA,aM,aB,aJ,aH,aI,aN,aO,aR,aP,aL,aE,aK,au,sl];omega) (by simp(disch:=omega)only[aA,aM,aB,aJ,aH,aI,aN,aO,aR,aP,aL,aE,aK,au,sl, *])
   have d6:=kH.alone (Hm.next+1) [.int .i64 p] true (by simp(disch:=omega)only[aA,aM,aB,aJ,aH,aI,aN,aO,aR,aP,aL,aE,aK,au,sl];omega) (by simp(disch:=omega)only[aA,aM,aB,aJ,aH,aI,aN,aO,aR,aP,aL,aE,aK,au,sl, *])
   have d7:=kH.alone X.next [.int .i64 x.ae,.int .i64 x.size] true (by simp(disch:=omega)only[aA,aM,aB,aJ,aH,aI,aN,aO,aR,aP,aL,aE,aK,au,sl];omega) (by simp(disch:=omega)only[aA,aM,aB,aJ,aH,aI,aN,aO,aR,aP,aL,aE,aK,au,sl, *])
   have l9:=kH.lo
   simp(disch:=omega)only[sm,sl]at di uu l9
   clear kH
   simp only[b9]at di
   repeat'(first|refine az 10 [Fx,Fx,Tx,Fx,Fx] ?_|((with_reducible show af _ _ _ _ _);refine ak _ (qM _ ah x (by assumption)) ?_;intro H2 k2 l2 n2 g2 q2;try simp(disch:=omega)only[sm,sl]at l2 n2 g2 q2)|simp(disch:=omega)only[↓aa,ab,simprocAttr,sa,builtin_max,cC,iN,eF,wL,wat,waw,wY,waA,waV,waZ, *])
   all_goals try omega
   rw[n3]at y9 pG
   have s9:aq (H9.setRow Hm.next [Value.slice (some ⟨Hk.next+1,0,none⟩) (done.length+1) (done.length+1)]) (H2.cd H.lo):=Ko.same (Ko.cd (Ko.trans (by rw[←aP];exact Ko.cd (Ko.refl _) _) k2) _) (by simp(disch:=omega)only[↓aa,ab,simprocAttr,sa, *])
   have e9:(done++[(⟨p,x.ae-p⟩:Span)]).flatMap b9=done.flatMap b9++b9 ⟨p,x.ae-p⟩:=by simp
   have e8:(done++[(⟨p,x.ae-p⟩:Span)]).length=done.length+1:=by simp
   simp only[aB,aE]at pG
   refine⟨(y9.setRow (by simp) _).trans ((s9.yd (by simp(disch:=omega)only[aA,aM,aB,aJ,aH,aI,aN,aO,aR,aP,aL,aE,aK,au,sl];omega)).trans ((Yd.refl _ _ _).setRow (by simp) _)),.inl ⟨_,f9,done++[⟨p,x.ae-p⟩],_,rfl,rfl,?_,by rw[waP];exact h4,fun z hz=>h5 z (wM _ hz),by rw[e8];omega,by split<;>omega,by split<;>omega⟩⟩
   rw[e9,e8]
   exact((pG.setRow (by omega)).same s9).setRow (by omega)
  ·rw[nh,wI rA,wL]at h4
   repeat'(first|refine ao (fun _=>?_) (fun _=>?_)|refine az 7 [Fx,Fx,Fx,Tx,Fx] ?_|refine az 10 [Fx,Fx,Tx,Fx,Fx] ?_|((with_reducible show af _ _ _ _ _);(first|refine ak X2 (qM _ ah all (by assumption)) ?_|refine ak X2 (qM _ ah x (by assumption)) ?_);intro H2 k2 l2 n2 g2 q2;try simp(disch:=omega)only[sm,sl]at l2 n2 g2 q2)|simp(disch:=omega)only[↓aa,ab,simprocAttr,sa,builtin_max, *])
   all_goals try omega
   rw[n3]at h3
   have s9:aq X2 (H2.cd H.lo):=aF
   refine⟨(Yd.trans (s9.yd (by omega)) ((Yd.refl _ _ _).setRow (by simp) _)),.inl ⟨sv,f,done,_,rfl,rfl,(h3.same s9).setRow (by omega),h4,fun z hz=>h5 z (wM _ hz),by simp only[wY]at h6;omega,by split<;>omega,by split<;>omega⟩⟩
 ·rintro X ⟨sv,f,done,p,h1,h2,h3,h4,h5,h6,h7,h8⟩ rb
  have lX:=rb.lo;have nX:=rb.ag
  have dX:=rb.vy
  have a2:=rb.objs H.next (by omega) (by simp;omega)
  have cK:all.stop=all.ae+all.size:=rfl
  rw[n3]at dX
  by_cases rA:p<all.ae+all.size
  ·have e4:nh all p []=[⟨p,all.ae+all.size-p⟩]:=wF rA
   rw[e4]at h4
   repeat'(first|refine az 11 [Fx,Fx,Tx,Fx] ?_|refine az 12 [Fx,Fx,Fx,Tx,Fx,Fx,Fx,Fx,Fx,Fx] ?_|((with_reducible show af _ _ _ _ _);refine ak X (qM _ ah all (by assumption)) ?_;intro H2 k2 l2 n2 g2 q2;try simp(disch:=omega)only[sm,sl]at l2 n2 g2 q2)|simp(disch:=omega)only[↓aa,ab,simprocAttr,sa, *])
   all_goals try omega
   obtain⟨Hk,rfl⟩:∃ Hk,Hk=H2:=⟨_,rfl⟩
   have s2:aq X (Hk.cd H.lo):=aF
   have HA:=s2.ag
   have p5:=s2.objs Hm.next (by omega)
   have p6:=s2.objs Hm.next (by omega)
   have p8:=s2.objs (Hm.next+1+1+1) (by omega)
   simp(disch:=omega)only[sm,sl]at HA p5 p8
   simp only[waA]at h6
   obtain⟨H9,f9,di,pG,kH,uu,_⟩:=qJ (bytes:=16) (k:=1) (new:=b9 ⟨p,all.ae+all.size-p⟩) ((h3.same s2).same (fx (b9 ⟨p,all.ae+all.size-p⟩))) (by simp(disch:=omega)only[aA,aM,aB,aJ,aH,aI,aN,aO,aR,aP,aL,aE,aK,au,sl];omega) (by simp(disch:=omega)only[aA,aM,aB,aJ,aH,aI,aN,aO,aR,aP,aL,aE,aK,au,sl];omega) (by omega) rfl rfl (by simp[ed,lM,cC];omega)
   have d5:=kH.alone Hm.next [sv] true (by simp(disch:=omega)only[aA,aM,aB,aJ,aH,aI,aN,aO,aR,aP,aL,aE,aK,au,sl];omega) (by simp(disch:=omega)only[aA,aM,aB,aJ,aH,aI,aN,aO,aR,aP,aL,aE,aK,au,sl,p5,h1])
   have d8:=(kH.below (Hm.next+1+1+1) (by omega)).1
   have kX:=rb.ko k3 (by intro x hx;simp only[wad,wbb,wck]at hx;omega)
   have k9:Ko H H9:=((kX.call s2).newRow (b9 ⟨p,all.ae+all.size-p⟩)).grown kH (by have:=k3.ag;omega)
   have l9:=kH.lo
   simp(disch:=omega)only[sm,sl]at di uu l9 d8
   clear kH
   simp only[b9]at di
   simp(disch:=omega)only[↓aa,ab,simprocAttr,sa,cC,iN,eF,wL,wat,waw,wY,waA,waV,waZ, *]
   have e9:(done++[(⟨p,all.ae+all.size-p⟩:Span)]).flatMap b9=done.flatMap b9++b9 ⟨p,all.ae+all.size-p⟩:=by simp
   have e8:(done++[(⟨p,all.ae+all.size-p⟩:Span)]).length=done.length+1:=by simp
   simp only[aB,aE]at pG
   rw[←e9,←e8]at pG
   have ho8:=pG.setRow (c:=[Value.slice (some ⟨Hk.next+1,0,none⟩) (done.length+1) (done.length+1)]) (x:=Hm.next) (by omega)
   have hz:=ho8.OJ (k:=Hm.next+1+1+1) (lo:=H.lo) (gr:=H9.grps) (by omega) (by rw[e8];omega)
   rw[e8,h4,aJ,uu]at hz
   refine⟨_,Au ?_ (by omega),hz,?_⟩
   ·rw[aA,au (by omega)]
    exact d8.trans ((s2.objs _ (by omega)).trans dX)
   ·exact AQ (k9.setRow (by omega) _) (by omega) rfl (by rw[aJ,uu])
  ·have e4:nh all p []=[]:=wI rA
   rw[e4,waw]at h4
   repeat'(first|refine az 11 [Fx,Fx,Tx,Fx] ?_|((with_reducible show af _ _ _ _ _);refine ak X (qM _ ah all (by assumption)) ?_;intro H2 k2 l2 n2 g2 q2;try simp(disch:=omega)only[sm,sl]at l2 n2 g2 q2)|simp(disch:=omega)only[↓aa,ab,simprocAttr,sa, *])
   all_goals try omega
   have s2:aq X (H2.cd H.lo):=aF
   have kX:=rb.ko k3 (by intro x hx;simp only[wad,wbb,wck]at hx;omega)
   refine⟨_,Au ((s2.objs _ (by omega)).trans dX) (by omega),?_,?_⟩
   ·rw[←h4]
    exact(h3.same s2).OJ (by omega) (by simp only[waA]at h6;omega)
   ·exact AQ (X:=H2.cd H.lo) (kX.call s2) (by omega) rfl rfl
 ·intro X h;exact h.elim
theorem zao{a b:Span}:a=b↔a.ae=b.ae∧a.size=b.size:=by cases a;cases b;simp
theorem zap{α:Type}{a b:List α}{i:Nat}(h:a.take i=b.take i)(h1:i<a.length)(h2:i<b.length)(e:a[i]=b[i]):a.take (i+1)=b.take (i+1):=by
 rw[wR,wR,h,wj h1,wj h2,e]
theorem zaq(H:Heap)(aj:H.lo≤H.next)(va vb:Value)(la lb:List Span)(ha:SL bD 2 H va la)(hb:SL bD 2 H vb lb):af E (aC 40) [va,vb] H fun r H'=>r= .bool (decide (la=lb))∧aq H H':=by
 obtain⟨a,ca,rfl,⟨_,jP⟩,bJ⟩:=ha
 obtain⟨b,cb,rfl,⟨_,so⟩,HB⟩:=hb
 refine aQ Tryz.f40 ?_
 simp only[Tryz.f40]
 repeat'(first|refine ao (fun _=>?_) (fun _=>?_)|apply bQ|simp(disch:=omega)only[↓aa,ab,simprocAttr,sa, *])
 case refine_2=>exact⟨fe (by simp only[wG,wa5];rintro rfl;omega),aF⟩
 refine bC H [0,1,12,13] (fun T1 H1 u1 k1 n1 l1 g1=>?_) aw
 try simp(disch:=omega)only[sm,sl]at n1 l1 g1
 simp only[sq,simprocAttr]at u1
 refine bt kq (fun nn T X=>∃ i:Nat,nn=la.length-i∧(T.get 13=some (.int .i64 i))∧(T.get 0=T1.get 0∧T.get 1=T1.get 1∧T.get 12=T1.get 12)∧Ko H1 X∧X.lo=H1.lo∧(i≤la.length∧la.take i=lb.take i)) ?_ ?_
 ·refine⟨_,0,rfl,?_,?_,Ko.refl _,rfl,⟨wJ _,rfl⟩⟩<;>exact ay
 rintro nn fk X1 ⟨i,rfl,m1,w1,bu,iz,⟨hi,he⟩⟩ Qs hQ aD ai
 have cw:=k1.trans bu;have fp:=bu.ag;have fX:=bu.objs
 by_cases hlt:i<la.length
 ·obtain⟨r,o,cells,gg,tt,part,rfl,hr,aG,a8,rfl⟩:=bJ i la[i] (by simp)
  obtain⟨r',o',cells',Hu,Hv,Ay,rfl,ct,kF,si,rfl⟩:=HB i lb[i] (by simp)
  have a1:=bI hlt
  have a2:at? (i:Int) lb.length=some i:=bI (by omega)
  have e1:=cw.objs r hr
  have e2:=cw.objs r' ct
  repeat'(first|refine ao (fun _=>?_) (fun _=>?_)|apply bQ|refine kV (fun _=>?_) (fun _=>?_)|refine az 6 [Fx,Fx,Fx,Fx,Fx,Fx,Fx,Fx,Fx] ?_|((with_reducible show Qs _ _ _ _ _);first|refine ai _ _ _ _ ?_|refine aD _ _ _ ?_)|simp(disch:=omega)only[↓aa,ab,simprocAttr,sa, *])
  case refine_1=>
   rename_i hx
   simp only[wA,wbO]at hx
   have mH:la[i]=lb[i]:=by rw[zao];exact hx
   refine hQ _ _ _ ?_ ⟨i+1,rfl,?_,?_,?_,?_,⟨by omega,zap he hlt (by omega) mH⟩⟩<;>exact ay
  case refine_2=>
   rename_i hx
   refine⟨fe ?_,aF⟩
   simp only[wG,wa5]
   rintro rfl
   simp at hx
  omega
 have eh:i=la.length:=by omega
 repeat'(first|refine ao (fun _=>?_) (fun _=>?_)|refine az 6 [Fx,Fx,Fx,Fx,Fx,Fx,Fx,Fx,Fx] ?_|((with_reducible show Qs _ _ _ _ _);refine ai _ _ _ _ ?_)|simp(disch:=omega)only[↓aa,ab,simprocAttr,sa, *])
 ·omega
 ·refine⟨fe ?_,aF⟩
  simp only[wbh]
  rw[eh,waj,wZ (by omega)]at he
  exact he
theorem HC{cells:List Value}{k:Nat}{a b:Value}(h:cut cells k 2=some [a,b]):cells[k]? =some a∧cells[k+1]? =some b:=by
 rw[dB]at h
 split at h
 ·simp only[wi]at h
  have h0:=congrArg (fun l:List Value=>l[0]?) h
  have h1:=congrArg (fun l:List Value=>l[1]?) h
  simp only[wab,wae]at h0 h1
  exact⟨by simpa using h0,by simpa using h1⟩
 ·cases h
def fI(all:Span):Option Span→List Span→Bool
 |_,[]=>true
 |p,x::l=>decide (lC x all)&&(match p with|none=>true|some y=>decide (y.ae+y.size≤x.ae))&&fI all (some x) l
def preB(p:Option Span)(x:Span):Bool:=match p with
 |none=>true
 |some y=>decide (y.ae+y.size≤x.ae)
theorem vY(all:Span)(p:Option Span)(x:Span)(l:List Span):fI all p (x::l)=(decide (lC x all)&&preB p x&&fI all (some x) l):=by cases p<;>rfl
theorem uv{all:Span}:∀ {l:List Span} {p:Option Span},fI all p l=true→(∀x∈l,qR all x)∧sg l∧∀ y,p=some y→∀ x∈l,y.ae+y.size≤x.ae
 |[],p,_=>⟨fun x h=>(by cases h),fun i j x y _ h=>(by simp at h),fun y _ x h=>(by cases h)⟩
 |x::l,p,h=>by
  simp only[fI,wA,wT]at h
  obtain⟨⟨h1,h2⟩,h3⟩:=h
  obtain⟨q1,q2,q3⟩:=uv h3
  have hx:qR all x:=⟨h1.1,h1.2.2.1,h1.2.2.2⟩
  have hm:=h1.1
  unfold bw at hm
  refine⟨fun z hz=>?_,?_,fun y hy z hz=>?_⟩
  ·rcases wad.1 hz with rfl|hz
   ·exact hx
   ·exact q1 z hz
  ·intro i j a b kp ha hb
   cases j with
   |zero=>omega
   |succ j=>
    have rR:l[j]? =some b:=by simpa using hb
    cases i with
    |zero=>
     simp only[wQ,wi]at ha
     subst ha
     have:=q3 x rfl b (wag rR)
     omega
    |succ i=>exact q2 i j a b (by omega) (by simpa using ha) rR
  ·subst hy
   simp only[wT]at h2
   rcases wad.1 hz with rfl|hz
   ·exact h2
   ·have:=q3 x rfl z hz
    omega
def jQ(all:Span)(l free:List Span):Bool:=fI all none l&&decide (sj all l=free)
theorem OK(H:Heap)(aj:H.lo≤H.next)(all:Span)(v w:Value)(l free:List Span)(hv:aZ bD 2 H v l)(hw:aZ bD 2 H w free)(hl:l.length≤100000):af E (aC 217) [bn all,v,w] H fun r H'=>r= .bool (jQ all l free)∧aq H H':=by
 have iP:=hv
 obtain⟨⟨a,ca,rfl,⟨_,jP⟩,bJ⟩,_⟩:=hv
 refine aQ Tryz.f217 ?_
 simp only[Tryz.f217]
 simp only[bn]
 simp(disch:=omega)only[↓aa,ab,simprocAttr,sa, *]
 refine bC H [1,2,3,9,10,11] (fun T1 H1 u1 k1 n1 l1 g1=>?_) aw
 try simp(disch:=omega)only[sm,sl]at n1 l1 g1
 simp only[sq,simprocAttr]at u1
 refine bt kq (fun nn T X=>∃ i:Nat,nn=l.length-i∧(T.get 11=some (.int .i64 i))∧(T.get 1=T1.get 1∧T.get 2=T1.get 2∧T.get 3=T1.get 3∧T.get 9=T1.get 9∧T.get 10=T1.get 10)∧Ko H1 X∧X.lo=H1.lo∧(i≤l.length∧fI all none l=fI all (if i=0 then none else l[i-1]?) (l.drop i)∧(∀x,0<i→l[i-1]? =some x→bw x))) ?_ ?_
 ·refine⟨_,0,rfl,?_,?_,Ko.refl _,rfl,⟨wJ _,rfl,fun x h=>absurd h (by omega)⟩⟩<;>exact ay
 rintro nn fk X1 ⟨i,rfl,m1,w1,bu,iz,⟨hi,hE,hP⟩⟩ Qs hQ aD ai
 have cw:=k1.trans bu;have fp:=bu.ag;have fX:=bu.objs
 by_cases hlt:i<l.length
 ·obtain⟨r,o,cells,gg,tt,part,rfl,hr,aG,a8,rfl⟩:=bJ i l[i] (by simp)
  have a1:=bI hlt
  have e1:=cw.objs r hr
  rw[wX hlt,vY]at hE
  by_cases sr:lC l[i] all
  ·have hmi:=sr.1
   unfold bw at hmi
   by_cases h0:i=0
   ·subst h0
    have zia:cut cells o 2=some [.int .i64 l[0].ae,.int .i64 l[0].size]:=by rw[wb2,waX]at a8;exact a8
    repeat'(first|refine ao (fun _=>?_) (fun _=>?_)|refine az 4 [Fx,Fx,Fx,Fx,Fx,Fx,Fx,Fx,Fx,Fx,Fx,Fx,Fx,Fx,Fx,Fx,Fx,Fx,Fx,Fx,Fx,Fx,Fx,Fx,Fx,Fx] ?_|((with_reducible show af _ _ _ _ _);refine ak H1 (DO _ ah l[0] all) ?_;intro H2 k2 l2 n2 g2 q2;try simp(disch:=omega)only[sm,sl]at l2 n2 g2 q2)|((with_reducible show Qs _ _ _ _ _);refine ai _ _ _ _ ?_)|simp(disch:=omega)only[↓aa,ab,simprocAttr,sa,wcg, *])
    all_goals try omega
    have hn:fI all none l=fI all (some l[0]) (l.drop 1):=by rw[hE];simp[sr,preB]
    refine hQ _ _ _ ?_ ⟨1,rfl,?_,?_,?_,?_,⟨by omega,by rw[hn,wI (by omega),wj (show 1-1<l.length from hlt)],fun x _ hx=>by rw[wj (show 1-1<l.length from hlt)]at hx;cases hx;exact sr.1⟩⟩<;>exact ay
   ·obtain⟨r',o',cells',Hu,Hv,Ay,e,ct,kF,si,rfl⟩:=bJ (i-1) l[i-1] (by simp)
    cases e
    rw[aG]at kF
    cases kF
    have a2:at? ((i:Int)-1) l.length=some (i-1):=by rw[show(i:Int)-1=((i-1:Nat):Int) by omega];exact bI (by omega)
    have a3:((i:Int)-1).toNat=i-1:=by omega
    obtain⟨f1,f2⟩:=HC si
    have HE:=hP l[i-1] (by omega) (by simp)
    unfold bw at HE
    by_cases DY:l[i-1].ae+l[i-1].size≤l[i].ae
    ·repeat'(first|refine ao (fun _=>?_) (fun _=>?_)|refine az 4 [Fx,Fx,Fx,Fx,Fx,Fx,Fx,Fx,Fx,Fx,Fx,Fx,Fx,Fx,Fx,Fx,Fx,Fx,Fx,Fx,Fx,Fx,Fx,Fx,Fx,Fx] ?_|((with_reducible show af _ _ _ _ _);refine ak H1 (DO _ ah l[i] all) ?_;intro H2 k2 l2 n2 g2 q2;try simp(disch:=omega)only[sm,sl]at l2 n2 g2 q2)|((with_reducible show Qs _ _ _ _ _);first|refine ai _ _ _ _ ?_|refine aD _ _ _ ?_)|simp(disch:=omega)only[↓aa,ab,simprocAttr,sa, *])
     all_goals try omega
     have hn:fI all none l=fI all (some l[i]) (l.drop (i+1)):=by
      rw[hE,wI h0,wj (by omega)]
      simp[sr,preB,DY]
     refine hQ _ _ _ ?_ ⟨i+1,rfl,?_,?_,?_,?_,⟨by omega,by rw[hn,wI (by omega),wj (show i+1-1<l.length from hlt)];rfl,fun x _ hx=>by rw[wj (show i+1-1<l.length from hlt)]at hx;cases hx;exact sr.1⟩⟩<;>exact ay
    ·repeat'(first|refine ao (fun _=>?_) (fun _=>?_)|refine az 4 [Fx,Fx,Fx,Fx,Fx,Fx,Fx,Fx,Fx,Fx,Fx,Fx,Fx,Fx,Fx,Fx,Fx,Fx,Fx,Fx,Fx,Fx,Fx,Fx,Fx,Fx] ?_|((with_reducible show af _ _ _ _ _);refine ak H1 (DO _ ah l[i] all) ?_;intro H2 k2 l2 n2 g2 q2;try simp(disch:=omega)only[sm,sl]at l2 n2 g2 q2)|((with_reducible show Qs _ _ _ _ _);first|refine ai _ _ _ _ ?_|refine aD _ _ _ ?_)|simp(disch:=omega)only[↓aa,ab,simprocAttr,sa, *])
     all_goals try omega
     have hn:fI all none l=false:=by
      rw[hE,wI h0,wj (by omega)]
      simp[preB,DY]
     have hz:jQ all l free=false:=by simp[jQ,hn]
     rw[hz]
     exact⟨rfl,aF⟩
  ·repeat'(first|refine ao (fun _=>?_) (fun _=>?_)|refine az 4 [Fx,Fx,Fx,Fx,Fx,Fx,Fx,Fx,Fx,Fx,Fx,Fx,Fx,Fx,Fx,Fx,Fx,Fx,Fx,Fx,Fx,Fx,Fx,Fx,Fx,Fx] ?_|((with_reducible show af _ _ _ _ _);refine ak H1 (DO _ ah l[i] all) ?_;intro H2 k2 l2 n2 g2 q2;try simp(disch:=omega)only[sm,sl]at l2 n2 g2 q2)|((with_reducible show Qs _ _ _ _ _);first|refine ai _ _ _ _ ?_|refine aD _ _ _ ?_)|simp(disch:=omega)only[↓aa,ab,simprocAttr,sa, *])
   all_goals try omega
   have hn:fI all none l=false:=by rw[hE];simp[sr]
   have hz:jQ all l free=false:=by simp[jQ,hn]
   rw[hz]
   exact⟨rfl,aF⟩
 ·repeat'(first|refine ao (fun _=>?_) (fun _=>?_)|((with_reducible show Qs _ _ _ _ _);refine ai _ _ _ _ ?_)|simp(disch:=omega)only[↓aa,ab,simprocAttr,sa, *])
  all_goals try omega
  have hn:fI all none l=true:=by rw[hE,waO (by omega)];cases(if i=0 then none else l[i-1]?)<;>rfl
  obtain⟨q1,q2,_⟩:=uv hn
  have hz:jQ all l free=decide (sj all l=free):=by simp[jQ,hn]
  rw[hz]
  refine(zaj X1 (by omega) all _ l (iP.mono bD.mono (Ko.same cw (by simp(disch:=omega)only[↓aa,ab,simprocAttr,sa, *]))) q2 q1 hl).mono ?_
  rintro r H4 ⟨h4,s4⟩
  refine(zaq H4 (by have:=s4.lo;have:=s4.ag;omega) r w _ free h4.1 ((hw.mono bD.mono (Ko.same cw (by simp(disch:=omega)only[↓aa,ab,simprocAttr,sa, *]))).mono bD.mono s4).1).mono ?_
  rintro r5 H5 ⟨rfl,s5⟩
  exact⟨rfl,(Ko.same cw (by simp(disch:=omega)only[↓aa,ab,simprocAttr,sa, *])).trans (s4.trans s5)⟩
theorem Ar.over{H:Heap}{a rw g:Nat}{ws DT:List Nat}(h:Ar H a rw g ws)(hl:DT.length=ws.length)(hu:∀ w∈DT,w<2^64):Ar (H.zB rw g 1 (DT.map wV)) a rw g DT where
 box:=by rw[KV,au h.ne,hl];exact h.box
 row:=by rw[KV,cB rfl];rfl
 bH:=by rw[Sk,cB rfl];rfl
 la:=h.la
 lw:=h.lw
 lg:=h.lg
 ne:=h.ne
 u64:=hu
 len:=by rw[hl];exact h.len
def fY(ks:List Int):List (Value×Value):=ks.map fun a=>(.int .i64 a,.bool true)
def oP(ks:List Int)(k:Int):List Int:=if k∈ks then ks else ks++[k]
theorem HF{k:Int}:∀ {ks:List Int} (i:Nat),k∈ks→∃ j,findV (.int .i64 k) (fY ks) i=some (some (i+j,.bool true))∧setVal (.bool true) (fY ks) j=fY ks
 |a::ks,i,h=>by
  by_cases e:k=a
  ·subst e
   exact⟨0,by simp[findV,fY,keyEq,sameKind,gI],rfl⟩
  ·have h':k∈ks:=(wad.1 h).resolve_left e
   obtain⟨j,h1,h2⟩:=HF (i+1) h'
   refine⟨j+1,?_,?_⟩
   ·have:keyEq (.int .i64 k) (.int .i64 a)=some false:=by simp[keyEq,sameKind,gI,e]
    simp only[fY,wbk,findV,this,wo]
    rw[show i+(j+1)=i+1+j by omega]
    exact h1
   ·simp only[fY,wbk,setVal]
    exact congrArg _ h2
theorem HG{k:Int}:∀ {ks:List Int} (i:Nat),k∉ks→findV (.int .i64 k) (fY ks) i=some none
 |[],_,_=>rfl
 |a::ks,i,h=>by
  have e:k≠a:=fun e=>h (e▸wW ..)
  have:keyEq (.int .i64 k) (.int .i64 a)=some false:=by simp[keyEq,sameKind,gI,e]
  simp only[fY,wbk,findV,this,wo]
  exact HG (i+1) fun h'=>h (wM _ h')
def ss(H:Heap)(ob:Option AObj)(r:Nat)(k v:Value):Option Heap:=
 match ob with
 |some (.map es)=>(findV k es 0).bind fun f=>
  match f with
  |some (i,_)=>H.po r (setVal v es i)
  |none=>H.po r (es++[(k,v)])
 |_=>none
theorem OL(H:Heap)(r:Nat)(k:Int)(v:Value):mapUpdateV E H 168 (.map (some r)) (.int .i64 k) v=ss H (H.objs.get r) r (.int .i64 k) v:=kq
def su(ob:Option AObj)(k z:Value):Option Value:=
 (match ob with
  |some (.map es)=>some es
  |some (.lQ es _)=>some (es.map Prod.fst)
  |_=>none).bind fun es=>(findV k es 0).bind fun f=>
     match f with
     |some (_,v)=>some v
     |none=>some z
theorem zar(H:Heap)(r:Nat)(k:Int):lookupV E H 168 (.map (some r)) (.int .i64 k) false=su (H.objs.get r) (.int .i64 k) (.bool false):=kq
theorem zas(ks:List Int)(k:Int):su (some (.map (fY ks))) (.int .i64 k) (.bool false)=some (.bool (decide (k∈ks))):=by
 rw[su]
 by_cases hk:k∈ks
 ·obtain⟨j,h1,h2⟩:=HF 0 hk
  simp only[wo,h1,hk,decide_true]
 ·simp only[wo,HG 0 hk,hk,decide_false]
theorem OM{H:Heap}{r:Nat}(ks:List Int)(hl:H.lo≤r)(k:Int):ss H (some (.map (fY ks))) r (.int .i64 k) (.bool true)=some (H.setObj r (.map (fY (oP ks k)))):=by
 rw[ss]
 have hb:(!Nat.ble H.lo r)=false:=by simpa using hl
 unfold oP
 by_cases hk:k∈ks
 ·obtain⟨j,h1,h2⟩:=HF 0 hk
  rw[wF hk,h1]
  simp only[wo,wau,h2,Heap.po,hb,wS,Tr.force_eq,Heap.setObj]
 ·rw[wI hk,HG 0 hk]
  have e:fY ks++[(.int .i64 k,.bool true)]=fY (ks++[k]):=by simp[fY]
  simp only[wo,Heap.po,hb,wS,Tr.force_eq,Heap.setObj,e]
theorem zat(H:Heap)(r:Nat):AH E H 168 (.map (some r))=(match gOf H (some r)with
  |some p=>some (.lO p.1 p.2 [] p.2)
  |none=>(entriesOf H (some r)).bind fun es=>some (.iter (some r) es.length .start)):=kq
theorem zau{T:Tr Value}{H:Heap}{K:Tok→Value→Heap→Prop}(x:Operand):OP .go E T (.entry x) H K=optP .go (ev T x) fun t v=>optP t (entryV H v) fun t v=>K t v H:=by
 rw[fQ fun _=>rfl];simp only[exOp,fg,fR,optP]
theorem zav{H:Heap}{r m n i:Nat}{es:List (Value×Value)}{e:Value×Value}(h:H.objs.get r=some (.iter (some m) n (.told i)))(hm:H.objs.get m=some (.map es))(hn:es.length=n)(he:es[i]? =some e):entryV H (ptr r 0)=some (.tuple #[e.1,e.2]):=by
 simp only[entryV,ptr,h,entriesOf,hm,wo,hn,he]
 simp
structure Slot where
 used:Bool
 gen:Int
 word:Nat
 deriving DecidableEq
def uw(s:Slot):List Value:=[.bool s.used,.int .i64 s.gen,.int .u64 s.word]
def ux:Heap→List Value→Slot→Prop:=fun _ part x=>part=uw x
theorem ux.mono:oM ux:=fun _ _ _ _ _ h=>h
def oQ(g:Int):Bool:=decide (0≤g∧g<1099511627776)
theorem zaw(H:Heap)(aj:H.lo≤H.next)(u:Bool)(gn w:Int):af E (aC 287) [.agg #[.bool u,.int .i64 gn,.int .u64 w]] H fun r H'=>r= .bool (oQ gn)∧aq H H':=by
 refine aQ Tryz.f287 ?_
 simp only[Tryz.f287]
 repeat'(first|(apply ao<;>intro)|simp(disch:=omega)only[↓aa,ab,simprocAttr,sa, *])
 all_goals((with_reducible show _∧_);exact⟨fe (by simp only[wT,wG,wbh,wa5,oQ];first|omega|(simp[*]<;>omega)),aF⟩)
def qS(h:Hd):Bool:= !h.mark&&decide (h.fq=0)
theorem yB(H:Heap)(aj:H.lo≤H.next)(h:Hd):af E (aC 240) [bK h] H fun r H'=>r= .bool (qS h)∧aq H H':=by
 refine aQ Tryz.f240 ?_
 simp only[Tryz.f240]
 simp only[bK]
 cases hm:h.mark
 all_goals(repeat' simp(disch:=omega)only[↓aa,ab,simprocAttr,sa, *])
 all_goals(first|(with_reducible exact aF)|((with_reducible show _∧_);exact⟨by first|rfl|(simp[qS, *]<;>omega),aF⟩))
theorem xp{n:Nat}(h:n<18446744073709551616):IntKind.u64.wrap (n:Int)=n:=uo .u64 _ (wco _) (by show(n:Int)≤18446744073709551615;omega)
theorem zgB{n:Int}(h:9223372036854775808≤n∧n<18446744073709551616):IntKind.i64.wrap n=n-18446744073709551616:=by
 show(if(true&&decide (n%(2^64:Int)≥(2^63:Int)))=true then n%(2^64:Int)-(2^64:Int)else n%(2^64:Int))=_
 rw[wa9,wF (wz (by omega))]
 omega
theorem iD(H:Heap)(aj:H.lo≤H.next)(x:Span):af E (aC 127) [bn x] H fun r H'=>r= .bool (decide (bw x))∧aq H H':=by
 refine aQ Tryz.f127 ?_
 simp only[Tryz.f127]
 simp only[bn]
 repeat'(first|(apply ao<;>intro)|simp(disch:=omega)only[↓aa,ab,simprocAttr,sa, *])
 all_goals first|exact aF|((with_reducible show _∧_);exact⟨fe (by simp only[wT,wG,wbh,wa5,bw];first|omega|(simp[*]<;>omega)),aF⟩)
theorem rh(H:Heap)(aj:H.lo≤H.next)(x:Span)(a:Int):af E (aC 232) [bn x,.int .i64 a] H fun r H'=>r= .bool (decide (bw x∧x.ae≤a∧a≤x.ae+x.size-1))∧aq H H':=by
 refine aQ Tryz.f232 ?_
 simp only[Tryz.f232]
 simp only[bn]
 by_cases hm:bw x
 ·have eE:=hm
  unfold bw at eE
  repeat'(first|(apply ao<;>intro)|((with_reducible show af _ _ _ _ _);refine ak H (iD _ ah x) ?_;intro H2 k2 l2 n2 g2 q2;try simp(disch:=omega)only[sm,sl]at l2 n2 g2 q2)|simp(disch:=omega)only[↓aa,ab,simprocAttr,sa,wz hm, *])
  all_goals first|exact aF|((with_reducible show _∧_);exact⟨fe (by simp only[wT,wG,wbh,wa5,hm];first|omega|(simp[*]<;>omega)),aF⟩)
 ·repeat'(first|((with_reducible show af _ _ _ _ _);refine ak H (iD _ ah x) ?_;intro H2 k2 l2 n2 g2 q2;try simp(disch:=omega)only[sm,sl]at l2 n2 g2 q2)|simp(disch:=omega)only[↓aa,ab,simprocAttr,sa,wx hm, *])
  all_goals first|exact aF|((with_reducible show _∧_);exact⟨fe (by simp only[wT,wG,wbh,wa5,hm];first|omega|(simp[*]<;>omega)),aF⟩)
theorem QK(H:Heap)(aj:H.lo≤H.next)(x y:Span):af E (aC 233) [bn x,bn y] H fun r H'=>r= .bool (decide (kC x y))∧aq H H':=by
 refine aQ Tryz.f233 ?_
 simp only[Tryz.f233]
 simp only[bn]
 by_cases hm:bw x∧bw y
 ·have eE:=hm
  unfold bw at eE
  obtain⟨m1,m2⟩:=hm
  by_cases h1:bw x∧x.ae≤y.ae∧y.ae≤x.ae+x.size-1
  ·repeat'(first|((with_reducible show af _ _ _ _ _);(first|refine ak H (iD _ ah x) ?_|refine ak H (iD _ ah y) ?_|refine ak H (rh _ ah x _) ?_);intro H2 k2 l2 n2 g2 q2;try simp(disch:=omega)only[sm,sl]at l2 n2 g2 q2)|simp(disch:=omega)only[↓aa,ab,simprocAttr,sa,wz m1,wz m2,wz h1, *])
   all_goals first|exact aF|((with_reducible show _∧_);exact⟨fe (by simp only[wT,wG,wbh,wa5,m1,m2,kC,Span.stop];first|omega|(simp[*]<;>omega)),aF⟩)
  ·repeat'(first|(apply ao<;>intro)|apply bQ|((with_reducible show af _ _ _ _ _);(first|refine ak H (iD _ ah x) ?_|refine ak H (iD _ ah y) ?_|refine ak H (rh _ ah x _) ?_|refine ak H (rh _ ah y _) ?_);intro H2 k2 l2 n2 g2 q2;try simp(disch:=omega)only[sm,sl]at l2 n2 g2 q2)|simp(disch:=omega)only[↓aa,ab,simprocAttr,sa,wz m1,wz m2,wx h1, *])
   simp only[m1,wbT]at h1
   all_goals first|exact aF|((with_reducible show _∧_);exact⟨fe (by simp only[wT,wG,wbh,wa5,m1,m2,kC,Span.stop];first|omega|(simp[*]<;>omega)),aF⟩)
 ·by_cases m1:bw x
  ·have m2:¬ bw y:=fun h=>hm ⟨m1,h⟩
   repeat'(first|((with_reducible show af _ _ _ _ _);(first|refine ak H (iD _ ah x) ?_|refine ak H (iD _ ah y) ?_);intro H2 k2 l2 n2 g2 q2;try simp(disch:=omega)only[sm,sl]at l2 n2 g2 q2)|simp(disch:=omega)only[↓aa,ab,simprocAttr,sa,wz m1,wx m2, *])
   all_goals first|exact aF|((with_reducible show _∧_);exact⟨fe (by simp only[wT,wG,wbh,wa5,m1,m2,kC];first|omega|(simp[*]<;>omega)),aF⟩)
  ·repeat'(first|((with_reducible show af _ _ _ _ _);refine ak H (iD _ ah x) ?_;intro H2 k2 l2 n2 g2 q2;try simp(disch:=omega)only[sm,sl]at l2 n2 g2 q2)|simp(disch:=omega)only[↓aa,ab,simprocAttr,sa,wx m1, *])
   all_goals first|exact aF|((with_reducible show _∧_);exact⟨fe (by simp only[wT,wG,wbh,wa5,m1,kC];first|omega|(simp[*]<;>omega)),aF⟩)
theorem Ey(H:Heap)(aj:H.lo≤H.next)(x y:Span):af E (aC 186) [bn x,bn y] H fun r H'=>r= .bool (decide (lC x y))∧aq H H':=by
 refine aQ Tryz.f186 ?_
 simp only[Tryz.f186]
 simp only[bn]
 by_cases hm:bw x∧bw y
 ·have eE:=hm
  unfold bw at eE
  obtain⟨m1,m2⟩:=hm
  by_cases h1:bw y∧y.ae≤x.ae∧x.ae≤y.ae+y.size-1
  ·repeat'(first|((with_reducible show af _ _ _ _ _);(first|refine ak H (iD _ ah x) ?_|refine ak H (iD _ ah y) ?_|refine ak H (rh _ ah y _) ?_);intro H2 k2 l2 n2 g2 q2;try simp(disch:=omega)only[sm,sl]at l2 n2 g2 q2)|simp(disch:=omega)only[↓aa,ab,simprocAttr,sa,wz m1,wz m2,wz h1, *])
   all_goals first|exact aF|((with_reducible show _∧_);exact⟨fe (by simp only[wT,wG,wbh,wa5,m1,m2,lC,Span.stop];first|omega|(simp[*]<;>omega)),aF⟩)
  ·repeat'(first|(apply ao<;>intro)|((with_reducible show af _ _ _ _ _);(first|refine ak H (iD _ ah x) ?_|refine ak H (iD _ ah y) ?_|refine ak H (rh _ ah y _) ?_);intro H2 k2 l2 n2 g2 q2;try simp(disch:=omega)only[sm,sl]at l2 n2 g2 q2)|simp(disch:=omega)only[↓aa,ab,simprocAttr,sa,wz m1,wz m2,wx h1, *])
   simp only[m2,wbT]at h1
   all_goals first|exact aF|((with_reducible show _∧_);exact⟨fe (by simp only[wT,wG,wbh,wa5,m1,m2,lC,Span.stop];first|omega|(simp[*]<;>omega)),aF⟩)
 ·by_cases m1:bw x
  ·have m2:¬ bw y:=fun h=>hm ⟨m1,h⟩
   repeat'(first|((with_reducible show af _ _ _ _ _);(first|refine ak H (iD _ ah x) ?_|refine ak H (iD _ ah y) ?_);intro H2 k2 l2 n2 g2 q2;try simp(disch:=omega)only[sm,sl]at l2 n2 g2 q2)|simp(disch:=omega)only[↓aa,ab,simprocAttr,sa,wz m1,wx m2, *])
   all_goals first|exact aF|((with_reducible show _∧_);exact⟨fe (by simp only[wT,wG,wbh,wa5,m1,m2,lC];first|omega|(simp[*]<;>omega)),aF⟩)
  ·repeat'(first|((with_reducible show af _ _ _ _ _);refine ak H (iD _ ah x) ?_;intro H2 k2 l2 n2 g2 q2;try simp(disch:=omega)only[sm,sl]at l2 n2 g2 q2)|simp(disch:=omega)only[↓aa,ab,simprocAttr,sa,wx m1, *])
   all_goals first|exact aF|((with_reducible show _∧_);exact⟨fe (by simp only[wT,wG,wbh,wa5,m1,lC];first|omega|(simp[*]<;>omega)),aF⟩)
theorem qb(H:Heap)(aj:H.lo≤H.next)(c:cm):af E (aC 84) [cD c] H fun r H'=>r= .bool (decide c.Ok)∧aq H H':=by
 refine aQ Tryz.f84 ?_
 simp only[Tryz.f84]
 simp only[cD]
 repeat'(first|(apply ao<;>intro)|apply bQ|simp(disch:=omega)only[↓aa,ab,simprocAttr,sa, *])
 all_goals first|exact aF|((with_reducible show _∧_);exact⟨fe (by simp only[wT,wG,wbh,wa5,cm.Ok];first|omega|(simp[*]<;>omega)),aF⟩)
theorem Jd(H:Heap)(aj:H.lo≤H.next)(c:cm):af E (aC 85) [cD c] H fun r H'=>r= .int .i64 c.words∧aq H H':=by
 refine aQ Tryz.f85 ?_
 simp only[Tryz.f85]
 simp only[cD]
 repeat'(first|(refine ao (fun hd=>?_) (fun hd=>?_)<;>try simp only[cm.Ok]at hd)|apply bQ|((with_reducible show af _ _ _ _ _);refine ak H (qb _ ah c) ?_;intro H2 k2 l2 n2 g2 q2;try simp(disch:=omega)only[sm,sl]at l2 n2 g2 q2)|simp(disch:=omega)only[↓aa,ab,simprocAttr,sa, *])
 all_goals(first|(with_reducible exact aF)|((with_reducible show _∧_);exact⟨by first|rfl|(simp[cm.words,cm.Ok, *]<;>omega),aF⟩))
theorem zgC(H:Heap)(aj:H.lo≤H.next)(c:cm):af E (aC 126) [cD c,.int .i64 0] H fun r H'=>r=bn (c.dI false)∧aq H H':=by
 refine aQ Tryz.f126 ?_
 simp only[Tryz.f126]
 simp only[cD]
 repeat'(first|(refine ao (fun hd=>?_) (fun hd=>?_)<;>try simp only[cm.Ok]at hd)|apply bQ|((with_reducible show af _ _ _ _ _);refine ak H (qb _ ah c) ?_;intro H2 k2 l2 n2 g2 q2;try simp(disch:=omega)only[sm,sl]at l2 n2 g2 q2)|simp(disch:=omega)only[↓aa,ab,simprocAttr,sa, *])
 all_goals(first|(with_reducible exact aF)|((with_reducible show _∧_);exact⟨by first|rfl|(simp[bn,cm.dI,cm.Ok, *]<;>omega),aF⟩))
theorem zgD(H:Heap)(aj:H.lo≤H.next)(c:cm):af E (aC 126) [cD c,.int .i64 1] H fun r H'=>r=bn (c.dI true)∧aq H H':=by
 refine aQ Tryz.f126 ?_
 simp only[Tryz.f126]
 simp only[cD]
 repeat'(first|(refine ao (fun hd=>?_) (fun hd=>?_)<;>try simp only[cm.Ok]at hd)|apply bQ|((with_reducible show af _ _ _ _ _);refine ak H (qb _ ah c) ?_;intro H2 k2 l2 n2 g2 q2;try simp(disch:=omega)only[sm,sl]at l2 n2 g2 q2)|simp(disch:=omega)only[↓aa,ab,simprocAttr,sa,Int.one_mul, *])
 all_goals(first|(with_reducible exact aF)|((with_reducible show _∧_);exact⟨by first|rfl|(simp[bn,cm.dI,cm.Ok, *]<;>omega),aF⟩))
theorem Je(H:Heap)(aj:H.lo≤H.next)(c:cm)(b:Bool):af E (aC 86) [cD c,.bool b] H fun r H'=>r=bn (c.dI b)∧aq H H':=by
 refine aQ Tryz.f86 ?_
 simp only[Tryz.f86]
 simp only[cD]
 cases b
 ·repeat'(first|((with_reducible show af _ _ _ _ _);refine ak H (zgC _ ah c) ?_;intro H2 k2 l2 n2 g2 q2;try simp(disch:=omega)only[sm,sl]at l2 n2 g2 q2)|simp(disch:=omega)only[↓aa,ab,simprocAttr,sa,bn, *])
  all_goals exact xW
 ·repeat'(first|((with_reducible show af _ _ _ _ _);refine ak H (zgD _ ah c) ?_;intro H2 k2 l2 n2 g2 q2;try simp(disch:=omega)only[sm,sl]at l2 n2 g2 q2)|simp(disch:=omega)only[↓aa,ab,simprocAttr,sa,bn, *])
  all_goals exact xW
theorem QL(H:Heap)(aj:H.lo≤H.next)(c:cm):af E (aC 130) [cD c] H fun r H'=>r=bn c.jr∧aq H H':=by
 refine aQ Tryz.f130 ?_
 simp only[Tryz.f130]
 simp only[cD]
 by_cases hc:c.Ok
 ·have DA:=hc
  unfold cm.Ok at DA
  repeat'(first|(apply ao<;>intro)|((with_reducible show af _ _ _ _ _);refine ak H (qb _ ah c) ?_;intro H2 k2 l2 n2 g2 q2;try simp(disch:=omega)only[sm,sl]at l2 n2 g2 q2)|simp(disch:=omega)only[↓aa,ab,simprocAttr,sa,wz hc, *])
  all_goals(first|(with_reducible exact aF)|((with_reducible show _∧_);exact⟨by first|rfl|(simp[bn,cm.jr,cm.yw,hc, *]<;>omega),aF⟩))
 ·repeat'(first|((with_reducible show af _ _ _ _ _);refine ak H (qb _ ah c) ?_;intro H2 k2 l2 n2 g2 q2;try simp(disch:=omega)only[sm,sl]at l2 n2 g2 q2)|simp(disch:=omega)only[↓aa,ab,simprocAttr,sa,wx hc, *])
  all_goals(first|(with_reducible exact aF)|((with_reducible show _∧_);exact⟨by first|rfl|(simp[bn,cm.jr,cm.yw,hc, *]<;>omega),aF⟩))
theorem Ez(H:Heap)(aj:H.lo≤H.next)(c:cm)(n:Int):af E (aC 89) [cD c,.int .i64 n] H fun r H'=>r= .bool (decide (c.Small n))∧aq H H':=by
 refine aQ Tryz.f89 ?_
 simp only[Tryz.f89]
 simp only[cD]
 by_cases hc:c.Ok
 ·repeat'(first|(apply ao<;>intro)|((with_reducible show af _ _ _ _ _);refine ak H (qb _ ah c) ?_;intro H2 k2 l2 n2 g2 q2;try simp(disch:=omega)only[sm,sl]at l2 n2 g2 q2)|simp(disch:=omega)only[↓aa,ab,simprocAttr,sa,wz hc, *])
  all_goals first|exact aF|((with_reducible show _∧_);exact⟨fe (by simp only[wT,wG,wbh,wa5,cm.Small,hc];first|omega|(simp[*]<;>omega)),aF⟩)
 ·repeat'(first|((with_reducible show af _ _ _ _ _);refine ak H (qb _ ah c) ?_;intro H2 k2 l2 n2 g2 q2;try simp(disch:=omega)only[sm,sl]at l2 n2 g2 q2)|simp(disch:=omega)only[↓aa,ab,simprocAttr,sa,wx hc, *])
  all_goals first|exact aF|((with_reducible show _∧_);exact⟨fe (by simp only[wT,wG,wbh,wa5,cm.Small,hc];first|omega|(simp[*]<;>omega)),aF⟩)
theorem zgE{w:Nat}(h4:w%4=1)(h:2305843009213693952≤w/4)(hw:w<18446744073709551616):dS w=some ⟨1,((w/4:Nat):Int)-4611686018427387904⟩:=by
 have e:((w:Int)-18446744073709551616)/4=((w/4:Nat):Int)-4611686018427387904:=by omega
 unfold dS
 rw[wF h4,zgB (by omega),e]
theorem zgF{k:Nat}(h:2305843009213693952≤k)(h2:k<4611686018427387904):IntKind.i64.wrap (0-IntKind.i64.wrap (IntKind.u64.wrap (4611686018427387904-(k:Int))))=(k:Int)-4611686018427387904:=by
 have q0:(4611686018427387904:Int)-(k:Int)=((4611686018427387904-k:Nat):Int):=by omega
 rw[q0,xp (by omega),wrap_i64 (n:=((4611686018427387904-k:Nat):Int)) (by omega) (by omega),wrap_i64 (by omega) (by omega)]
 omega
theorem uL(H:Heap)(aj:H.lo≤H.next)(w:Nat)(hw:w<2^64):af E (aC 110) [.int .u64 w] H fun r H'=>r= .tuple #[cX ((dS w).getD .none),.int .i64 (if(dS w).isSome then 0 else 3)]∧aq H H':=by
 have qy:w<18446744073709551616:=by omega
 have t1:IntKind.u64.wrap ((w:Int).tdiv 4)=((w/4:Nat):Int):=xp (n:=w/4) (by omega)
 have t2:(w:Int).tmod 4=((w%4:Nat):Int):=rfl
 refine aQ Tryz.f110 ?_
 simp only[Tryz.f110]
 repeat'(first|(apply ao<;>intro)|simp(disch:=omega)only[↓aa,ab,simprocAttr,sa,t1,t2, *])
 all_goals refine⟨?_,by exact aF⟩
 all_goals first
  |(have e:dS w=some .none:=by unfold dS;rw[wI (by omega),wI (by omega),wF (by omega)]
    rw[e];rfl)
  |(have e:dS w=some ⟨1,((w/4:Nat):Int)⟩:=by
     unfold dS;rw[wF (by omega),wrap_i64 (by omega) (by omega)];rfl
    rw[e];rfl)
  |(rw[zgE (by omega) (by omega) (by omega),zgF (by omega) (by omega)];rfl)
  |(have e:dS w=some ⟨2,((w/4:Nat):Int)⟩:=by unfold dS;rw[wI (by omega),wF (by omega)];rfl
    rw[e];rfl)
  |(have e:dS w=none:=by unfold dS;rw[wI (by omega),wI (by omega),wI (by omega)]
    rw[e];rfl)
  |trace_state
structure eA(b g:Nat)(H H':Heap):Prop where
 lo:H'.lo=H.lo
 ag:H.next≤H'.next
 below:∀ x,x<b→H'.objs.get x=H.objs.get x∧H'.grps.get x=H.grps.get x
 objs:∀ x o,x<H.next→H.objs.get x=some o→(∀c z t,o≠ .row c (some (g,z)) t)→H'.objs.get x=some o
 grps:∀ y,y<H.next→y≠g→H'.grps.get y=H.grps.get y
def OS(b z:Nat)(H:Heap)(v:Value)(n:Nat)(cs:List Value):Option Nat→Prop
 |none=>v= .slice none 0 0∧n=0∧cs=[]
 |some g=>∃ r cap full aS,v= .slice (some ⟨r,0,none⟩) n cap∧(n≤cap∧cap≤1000000000)∧full.length=cap*z∧full.take (n*z)=cs∧H.objs.get r=some (.row full (some (g,z)) true)∧H.grps.get g=some aS∧
   b≤r∧r<H.next∧b≤g∧g<H.next∧(∀x∈aS,b≤x∧x<H.next∧∃ c z t,H.objs.get x=some (.row c (some (g,z)) t))∧r∉aS
section
variable{b z n:Nat}{H H':Heap}{v:Value}{cs:List Value}{go:Option Nat}
theorem OS.nil(b z:Nat)(H:Heap):OS b z H (.slice none 0 0) 0 [] none:=⟨rfl,rfl,rfl⟩
theorem OS.lt(h:OS b z H v n cs go):∀ g,go=some g→b≤g∧g<H.next:=by
 rintro g rfl
 obtain⟨r,cap,full,aS,_,_,_,_,_,_,_,_,h1,h2,_⟩:=h
 exact⟨h1,h2⟩
theorem OS.cz(h:OS b z H v n cs go)(hn:H.next≤H'.next)(ho:∀ x c z t g,go=some g→b≤x→x<H.next→H.objs.get x=some (.row c (some (g,z)) t)→H'.objs.get x=some (.row c (some (g,z)) t))(hg:∀ g,go=some g→H'.grps.get g=H.grps.get g):OS b z H' v n cs go:=by
 cases go with
 |none=>exact h
 |some g=>
  obtain⟨r,cap,full,aS,h1,h2,h3,h4,h5,h6,h7,h8,h9,aY,aV,bB⟩:=h
  refine⟨r,cap,full,aS,h1,h2,h3,h4,ho r _ _ _ g rfl h7 h8 h5,by rw[hg g rfl,h6],h7,by omega,h9,by omega,fun x hx=>?_,bB⟩
  obtain⟨q1,q2,c,z',t,q3⟩:=aV x hx
  exact⟨q1,by omega,c,z',t,ho x c z' t g rfl q1 q2 q3⟩
theorem OS.same(h:OS b z H v n cs go)(s:aq H H'):OS b z H' v n cs go:=
 h.cz s.ag (fun x c z t g _ _ hx ho=>s.keeps hx ho) fun g e=>s.grps g (h.lt g e).2
theorem OS.ko(h:OS b z H v n cs go)(s:Ko H H'):OS b z H' v n cs go:=
 h.cz s.ag (fun x c z t g _ _ hx ho=>s.keeps hx ho) fun g e=>s.grps g (h.lt g e).2
theorem OS.cU{g:Nat}(h:OS b z H v n cs go)(e:eA b g H H')(hg:go≠some g):OS b z H' v n cs go:=
 h.cz e.ag (fun x c z t g' e' _ hx ho=>e.objs x _ hx ho fun c' z' t' q=>by
  simp only[AObj.row.injEq,wi,wk]at q
  exact hg (e'.trans (congrArg some q.2.1.1))) fun g' e'=>e.grps g' (h.lt g' e').2 fun q=>hg (e'.trans (congrArg some q))
theorem OS.setRow{p:Nat}{c c':List Value}{t:Bool}(h:OS b z H v n cs go)(hp:H.objs.get p=some (.row c none t)):OS b z (H.setRow p c') v n cs go:=
 h.cz (wy _) (fun x c z t' g _ _ hx ho=>by
  have:x≠p:=fun e=>by rw[e,hp]at ho;simp at ho
  rw[aA,au this];exact ho) fun g e=>rfl
theorem eA.row{g:Nat}(e:eA b g H H'){p:Nat}{c:List Value}{t:Bool}(hp:p<H.next)(h:H.objs.get p=some (.row c none t)):H'.objs.get p=some (.row c none t):=
 e.objs p _ hp h fun c' z' t' q=>by simp at q
theorem zcN{z b k:Nat}(h:ed z b k=true):k≤1000000000:=by
 unfold ed at h
 simp only[wA,wcm]at h
 exact wan h.2
theorem Qu:∀ (aS:List Nat) (t:Tr AObj) (lo:Nat),(∀x∈aS,lo≤x)→∃ t',tx lo t aS=some t'∧(∀x,x∉aS→t'.get x=t.get x)
 |[],t,lo,_=>⟨t,rfl,fun _ _=>rfl⟩
 |k::l,t,lo,h=>by
  obtain⟨t',h1,h2⟩:=Qu l (t.del k) lo fun x hx=>h x (wM _ hx)
  refine⟨t',?_,fun x hx=>?_⟩
  ·rw[tx,wP (h k (wW ..)),wai]
   exact h1
  ·rw[h2 x fun hh=>hx (wM _ hh),uq _ _ _ fun e=>hx (by rw[e];exact wW ..)]
theorem Qv{r g z o:Nat}{full new:List Value}{aS:List Nat}(hr:H.objs.get r=some (.row full (some (g,z)) true))(hg:H.grps.get g=some aS)(aj:H.lo≤r)(hold:∀ x∈aS,H.lo≤x)(hc:new.all isCell=true)(hf:o+new.length≤full.length):
  ∃t':Tr AObj,H.write r o new=some {objs:=t'.set r (.row (over new o full) (some (g,z)) true),grps:=H.grps.set g [],next:=H.next,lo:=H.lo}∧(∀x,x∉aS→t'.get x=H.objs.get x):=by
 obtain⟨t',h1,h2⟩:=Qu aS H.objs H.lo hold
 refine⟨t',?_,h2⟩
 simp only[Heap.write,wP aj,hc,wa7,Bool.or_self,wS,hr,wP hf,hg,h1,wo,Tr.force_eq]
theorem yW(t:Tr AObj)(k x:Nat)(o:AObj):(t.set k o).get x=if x=k then some o else t.get x:=rfl
theorem yX(t:Tr (List Nat))(k x:Nat)(o:List Nat):(t.set k o).get x=if x=k then some o else t.get x:=rfl
theorem OS.write{g:Nat}{new:List Value}{o:Nat}(h:OS b z H v n cs (some g))(aj:H.lo≤b)(hc:new.all isCell=true)(hf:o+new.length≤cs.length):
  ∃r cap H',v= .slice (some ⟨r,0,none⟩) n cap∧H.write r o new=some H'∧OS b z H' v n (over new o cs) (some g)∧eA b g H H':=by
 obtain⟨r,cap,full,aS,h1,h2,h3,h4,h5,h6,h7,h8,h9,aY,aV,bB⟩:=h
 have tX:cs.length≤full.length:=by rw[←h4,wU];omega
 obtain⟨t',q1,q2⟩:=Qv (o:=o) (new:=new) h5 h6 (by omega) (fun x hx=>by have:=(aV x hx).1;omega) hc (by omega)
 refine⟨r,cap,_,h1,q1,⟨r,cap,over new o full,[],h1,h2,?_,?_,?_,?_,h7,h8,h9,aY,fun x hx=>(by cases hx),by simp⟩,⟨rfl,wy _,fun x hx=>⟨?_,?_⟩,fun x ob hx ho hn=>?_,fun y hy hn=>?_⟩⟩
 ·rw[oY _ _ _ (by omega)]
  simp only[wN,wU,wbe]
  omega
 ·rw[oY _ _ _ (by omega),oY _ _ _ hf,←h4]
  rw[←h4,wU]at hf
  rw[waP,waP,List.take_append,List.take_append,wZ (show(List.take o full).length≤n*z by rw[wU];omega),wU,waS (by omega),
   wZ (show new.length≤n*z-o by omega),wcN,waS (by omega),wcO,show n*z-o-new.length=n*z-(o+new.length) by omega]
 ·show(t'.set r _).get r=_
  rw[yW,wF rfl]
 ·show(H.grps.set g []).get g=_
  rw[yX,wF rfl]
 ·show(t'.set r _).get x=_
  rw[yW,wI (by omega),q2 x fun hh=>by have:=(aV x hh).1;omega]
 ·show(H.grps.set g []).get x=_
  rw[yX,wI (by omega)]
 ·show(t'.set r _).get x=_
  have uI:x≠r:=fun e=>by
   subst e
   rw[h5]at ho
   exact hn _ _ _ (waH ho).symm
  rw[yW,wI uI,q2 x fun hh=>by
   obtain⟨_,_,c,z',t,q⟩:=aV x hh
   rw[q]at ho
   exact hn _ _ _ (waH ho).symm]
  exact ho
 ·show(H.grps.set g []).get y=_
  rw[yX,wI hn]
theorem OS.app{bytes:Nat}{part:List Value}(h:OS b z H v n cs go)(hb:b≤H.next)(aj:H.lo≤b)(hp:part.length=z)(hc:part.all isCell=true)(bh:ed z bytes (n+1)=true):
  ∃v' H' g',appendT z bytes H v 1 part=some (v',H')∧OS b z H' v' (n+1) (cs++part) (some g')∧eA b g' H H'∧(go=some g'∨go=none∧g'=H.next):=by
 have Dt:(n+1)*z=n*z+z:=by rw[waW];omega
 cases go with
 |none=>
  obtain⟨rfl,rfl,rfl⟩:=h
  have e0:Nat.ble (0+1) 0=false:=rfl
  refine⟨.slice (some ⟨H.next,0,none⟩) 1 1,H.dx z part,H.next,by simp only[appendT,e0,bh,wS,wau];rfl,⟨H.next,1,part,[],rfl,⟨wy _,by decide⟩,by omega,by rw[Dt];simp[wZ,hp],by rw[iM,cB rfl];rfl,by rw[jN,cB rfl];rfl,hb,by rw[fW];omega,hb,by rw[fW];omega,fun x hx=>(by cases hx),by simp⟩,
   ⟨yv z part,by rw[fW];omega,fun x hx=>⟨by rw[iM,au (by omega)];rfl,by rw[jN,au (by omega)];rfl⟩,fun x o hx ho _=>by rw[iM,au (by omega)];exact ho,fun y hy _=>by rw[jN,au (by omega)];rfl⟩,.inr ⟨rfl,rfl⟩⟩
 |some g=>
  obtain⟨r,cap,full,aS,h1,h2,h3,h4,h5,h6,h7,h8,h9,aY,aV,bB⟩:=h
  subst h1
  by_cases Dv:n=cap
  ·subst Dv
   have zcO:full=cs:=by rw[←h4,wZ (by omega)]
   subst zcO
   have qK:Nat.ble (n+1) n=false:=waK.2 fun hh=>by have:=wan hh;omega
   have a8:cut full 0 (n*z)=some full:=by rw[dB,wF (by omega),waZ,wZ (by omega)]
   have e1:Nat.beq (0+n*z) full.length=true:=by rw[h3,wau];exact wbc _
   have e2:Nat.ble H.lo r=true:=wP (by omega)
   have e3:Nat.beq z z=true:=wbc _
   refine⟨.slice (some ⟨H.next,0,none⟩) (n+1) (n+1),H.mW r full g z aS (full++part),g,by simp only[appendT,qK,bh,wS,h5,e1,e2,e3,hc,wb8,wai,a8,wo,GR h6];rfl,
    ⟨H.next,n+1,full++part,r::aS,rfl,⟨wy _,zcN bh⟩,by rw[wN];omega,by rw[wZ (by rw[wN];omega)],by rw[pB,cB rfl];rfl,by rw[vN,cB rfl];rfl,hb,wcd _,h9,wbf aY,fun x hx=>?_,fun hx=>?_⟩,
    ⟨rfl,Nat.le_succ _,fun x hx=>⟨?_,?_⟩,fun x o hx ho hn=>?_,fun y hy hn=>?_⟩,.inl rfl⟩
   ·rcases wad.1 hx with rfl|hx
    ·exact⟨h7,wbf h8,full,z,false,by rw[pB,au (by omega),cB rfl];rfl⟩
    ·obtain⟨q1,q2,c,z',t,q3⟩:=aV x hx
     have uI:x≠r:=fun e=>bB (by rw[←e];exact hx)
     exact⟨q1,wbf q2,c,z',t,by rw[pB,au (by omega),au uI];exact q3⟩
   ·rcases wad.1 hx with e|hx
    ·omega
    ·have:=(aV _ hx).2.1;omega
   ·rw[pB,au (by omega),au (by omega)];rfl
   ·rw[vN,au (by omega)];rfl
   ·have uI:x≠r:=fun e=>by
     subst e
     rw[h5]at ho
     exact hn _ _ _ (waH ho).symm
    rw[pB,au (by omega),au uI];exact ho
   ·rw[vN,au hn];rfl
  ·have hlt:n+1≤cap:=by omega
   have Ew:=waQ z hlt
   obtain⟨t',q1,q2⟩:=Qv (o:=0+n*z) (new:=part) h5 h6 (by omega) (fun x hx=>by have:=(aV x hx).1;omega) hc (by omega)
   refine⟨.slice (some ⟨r,0,none⟩) (n+1) cap,{objs:=t'.set r (.row (over part (0+n*z) full) (some (g,z)) true),grps:=H.grps.set g [],next:=H.next,lo:=H.lo},g,by simp only[appendT,wP hlt,wai,show Nat.beq 1 0=false from rfl,wS,q1,wo],
    ⟨r,cap,over part (0+n*z) full,[],rfl,⟨hlt,h2.2⟩,?_,?_,?_,?_,h7,h8,h9,aY,fun x hx=>(by cases hx),by simp⟩,⟨rfl,wy _,fun x hx=>⟨?_,?_⟩,fun x o hx ho hn=>?_,fun y hy hn=>?_⟩,.inl rfl⟩
   ·rw[oY _ _ _ (by omega)]
    simp only[wN,wU,wbe]
    omega
   ·rw[oY _ _ _ (by omega),wau,←h4,waP,←waP,List.take_left' (by rw[wN,wU];omega)]
   ·show(t'.set r _).get r=_
    rw[yW,wF rfl]
   ·show(H.grps.set g []).get g=_
    rw[yX,wF rfl]
   ·show(t'.set r _).get x=_
    rw[yW,wI (by omega),q2 x fun hh=>by have:=(aV x hh).1;omega]
   ·show(H.grps.set g []).get x=_
    rw[yX,wI (by omega)]
   ·show(t'.set r _).get x=_
    have uI:x≠r:=fun e=>by
     subst e
     rw[h5]at ho
     exact hn _ _ _ (waH ho).symm
    rw[yW,wI uI,q2 x fun hh=>by
     obtain⟨_,_,c,z',t,q⟩:=aV x hh
     rw[q]at ho
     exact hn _ _ _ (waH ho).symm]
    exact ho
   ·show(H.grps.set g []).get y=_
    rw[yX,wI hn]
theorem OS.Pa{r cap m:Nat}(h:OS b z H (.slice (some ⟨r,0,none⟩) n cap) n cs go)(hm:m≤n):OS b z H (.slice (some ⟨r,0,none⟩) m cap) m (cs.take (m*z)) go:=by
 cases go with
 |none=>cases h.1
 |some g=>
  obtain⟨r',uk,full,aS,h1,h2,h3,h4,h5,h6,h7,h8,h9,aY,aV,bB⟩:=h
  cases h1
  have:=waQ z hm
  exact⟨r,cap,full,aS,rfl,by omega,h3,by rw[←h4,wcN,waS this],h5,h6,h7,h8,h9,aY,aV,bB⟩
theorem OS.reads{α:Type}{R:Heap→List Value→α→Prop}{l:List α}(h:OS b z H v n cs go)(hl:l.length=n)(cg:n≤1000000000)(hR:dD R z H cs l):aZ R z H v l:=by
 subst hl
 cases go with
 |none=>
  obtain⟨rfl,h2,h3⟩:=h
  cases l with
  |nil=>exact aZ.nil
  |cons x l=>simp at h2
 |some g=>
  obtain⟨r,cap,full,aS,rfl,h2,h3,h4,h5,h6,h7,h8,h9,aY,aV,bB⟩:=h
  refine⟨SL.ofRow h8 h5 h2.1 (by omega) fun i x hi=>?_,fun a m c e=>?_⟩
  ·obtain⟨part,q1,q2⟩:=hR.2 i x hi
   have tu:=(wD.1 hi).1
   have Ew:=waQ z (show i+1≤l.length from tu)
   rw[waW]at Ew
   have zcP:=waQ z h2.1
   refine⟨part,?_,q2⟩
   rw[←q1,←h4,GW (by omega) (by omega)]
  ·simp only[waq]at e
   obtain⟨rfl,_,_⟩:=e
   exact .inr ⟨r,full,_,_,rfl,h8,h5⟩
end
def rf(x y:Span):Bool:=decide (x.ae<y.ae∨x.ae=y.ae∧x.size<y.size)
def mB(x:Span)(out:List Span):Nat→Nat
 |0=>0
 |n+1=>if rf x (out.getD n ⟨0,0⟩)then mB x out n else n+1
def gE(out:List Span)(x:Span):List Span:=out.take (mB x out out.length)++x::out.drop (mB x out out.length)
def lJ(l:List Span):List Span:=l.foldl gE []
def eI(l:List Span):List Span:=l.flatMap fun x=>if bw x then[⟨x.ae,0⟩,⟨x.ae+x.size,0⟩]else[]
def eJ:Option Int→List Span→List Int
 |_,[]=>[]
 |p,x::l=>(if p=some x.ae then[]else[x.ae])++eJ (some x.ae) l
def pX(l:List Span):List Int:=eJ none (lJ (eI l))
def hasB(x:Span)(a:Int):Bool:=decide (bw x∧x.ae≤a∧a≤x.ae+x.size-1)
def mC(l:List Span)(a:Int):Bool:=l.any (hasB · a)
def kL(out:List Span)(a b:Int):List Span:=match out.getLast? with
 |some y=>if y.ae+y.size=a then out.dropLast++[⟨y.ae,b-y.ae⟩]else out++[⟨a,b-a⟩]
 |none=>out++[⟨a,b-a⟩]
def pieces(all:Span)(l:List Span):List Span→List Int→List Span
 |out,a::b::r=>pieces all l (if hasB all a&& !mC l a then kL out a b else out) (b::r)
 |out,_=>out
def pY(all:Span)(l:List Span):List Span:=pieces all l [] (pX (all::l))
def uJ(e:Int):Int→List Span→Prop
 |_,[]=>True
 |p,x::l=>p≤x.ae∧bw x∧x.ae+x.size≤e∧uJ e (x.ae+x.size) l
theorem Qw{all:Span}:∀ {l:List Span} {p:Option Span} {q:Int},fI all p l=true→(∀y,p=some y→q=y.ae+y.size)→(p=none→q=all.ae)→uJ (all.ae+all.size) q l
 |[],_,_,_,_,_=>trivial
 |x::l,p,q,h,h1,h2=>by
  rw[vY,wA,wA,wT]at h
  obtain⟨⟨hw,hp⟩,hl⟩:=h
  refine⟨?_,hw.1,hw.2.2.2,Qw hl (fun y e=>by cases e;rfl) (fun e=>by cases e)⟩
  cases p with
  |none=>rw[h2 rfl];exact hw.2.2.1
  |some y=>rw[h1 y rfl];exact wap hp
def pZ(e:Int):Int→List Span→List Span
 |p,[]=>if p<e then[⟨p,e-p⟩]else[]
 |p,x::l=>(if p<x.ae then[⟨p,x.ae-p⟩]else[])++pZ e (x.ae+x.size) l
theorem Ja(all:Span):∀ (l:List Span) (op:Span) (p:Int),0<op.size→p≤op.ae→uJ (all.ae+all.size) (op.ae+op.size) l→nh all p (gK op l)=(if p<op.ae then[⟨p,op.ae-p⟩]else[])++pZ (all.ae+all.size) (op.ae+op.size) l
 |[],op,p,h0,hp,_=>by
  rw[gK,wF h0,nh,wF (show p<op.ae+op.size by omega),nh,pZ]
 |s::l,op,p,h0,hp,ho=>by
  obtain⟨o1,o2,o3,o4⟩:=ho
  unfold bw at o2
  rw[gK]
  by_cases hc:s.ae≤op.ae+op.size
  ·rw[wF ⟨h0,hc⟩,wF (by omega),Ja all l ⟨op.ae,s.ae+s.size-op.ae⟩ p (by simp only;omega) hp (by simp only;rw[show op.ae+(s.ae+s.size-op.ae)=s.ae+s.size by omega];exact o4),pZ]
   simp only
   rw[wI (show ¬op.ae+op.size<s.ae by omega),wL,show op.ae+(s.ae+s.size-op.ae)=s.ae+s.size by omega]
  ·rw[wI (fun h=>hc h.2),wF h0,nh,wF (show p<op.ae+op.size by omega),Ja all l s _ (by omega) (by omega) o4,pZ]
theorem zcQ{all:Span}(ha:bw all){l:List Span}(h:uJ (all.ae+all.size) all.ae l):sj all l=pZ (all.ae+all.size) all.ae l:=by
 rw[sj,wF ha]
 cases l with
 |nil=>
  rw[gK,wI (by simp),nh,pZ]
 |cons s l=>
  obtain⟨o1,o2,o3,o4⟩:=h
  unfold bw at o2
  rw[gK,wI (fun h=>by have:=h.1;simp at this),wI (by simp),Ja all l s _ (by omega) o1 o4,pZ]
theorem Qx(x:Span)(out:List Span)(n:Nat)(h:∀ y,n≠0→out[n-1]? =some y→rf x y=false)(hn:n≤out.length):mB x out n=n:=by
 cases n with
 |zero=>rfl
 |succ n=>
  rw[mB,wav,wj (by omega),wbr,h out[n] (by omega) (wj (by omega)),wI (by simp)]
theorem Qy(pre:List Span)(a m:Int)(h:∀ y∈pre,y.size=0∧y.ae≤a)(OU:a≤m):gE (pre++[⟨m,0⟩]) ⟨a,0⟩=pre++[⟨a,0⟩,⟨m,0⟩]:=by
 have h0:mB ⟨a,0⟩ (pre++[⟨m,0⟩]) pre.length=pre.length:=by
  refine Qx _ _ _ (fun y h0 hy=>?_) (by simp)
  rw[waf (by omega)]at hy
  obtain⟨h1,h2⟩:=h y (wag hy)
  unfold rf
  rw[wal,h1]
  simp only
  omega
 rw[gE,wN,wbJ,mB,wav,waB (wy _),wbS]
 by_cases hc:a<m
 ·rw[wF (by simp[rf];omega),h0]
  simp
 ·have:a=m:=by omega
  subst this
  rw[wI (by simp[rf]),wZ (by simp)]
  simp
def yY(l:List Span):List Span:=l.flatMap fun x=>[⟨x.ae,0⟩,⟨x.ae+x.size,0⟩]
theorem Qz(e:Int):∀ (l:List Span) (p:Int) (pre:List Span),(∀y∈pre,y.size=0∧y.ae≤p)→uJ e p l→(eI l).foldl gE (pre++[⟨e,0⟩])=pre++yY l++[⟨e,0⟩]
 |[],p,pre,h,_=>by simp[eI,yY]
 |x::l,p,pre,h,ho=>by
  obtain⟨o1,o2,o3,o4⟩:=ho
  have hm:=o2
  unfold bw at hm
  have hz:∀ y∈pre++[(⟨x.ae,0⟩:Span)],y.size=0∧y.ae≤x.ae+x.size:=fun y hy=>by
   rcases waI.1 hy with hy|hy
   ·have:=h y hy;omega
   ·rw[waG]at hy;subst hy;exact⟨rfl,show x.ae≤x.ae+x.size by omega⟩
  have uj:∀ y∈pre++[(⟨x.ae,0⟩:Span)]++[⟨x.ae+x.size,0⟩],y.size=0∧y.ae≤x.ae+x.size:=fun y hy=>by
   rcases waI.1 hy with hy|hy
   ·exact hz y hy
   ·rw[waG]at hy;subst hy;exact⟨rfl,Int.le_refl _⟩
  have he:eI (x::l)=⟨x.ae,0⟩::⟨x.ae+x.size,0⟩::eI l:=by simp[eI,wF o2]
  rw[he,wb4,wb4,Qy pre x.ae e (fun y hy=>by have:=h y hy;omega) (by omega),
   show pre++[(⟨x.ae,0⟩:Span),⟨e,0⟩]=(pre++[⟨x.ae,0⟩])++[⟨e,0⟩] by simp,Qy _ (x.ae+x.size) e hz (by omega),
   show pre++[(⟨x.ae,0⟩:Span)]++[⟨x.ae+x.size,0⟩,⟨e,0⟩]=(pre++[⟨x.ae,0⟩]++[⟨x.ae+x.size,0⟩])++[⟨e,0⟩] by simp,Qz e l _ _ uj o4]
  simp[yY]
theorem Jb{x:Span}{a:Int}(h:a<x.ae∨x.ae+x.size≤a):hasB x a=false:=by
 unfold hasB
 rw[wal]
 omega
theorem uJ.after{e:Int}:∀ {l:List Span} {p:Int},uJ e p l→∀ x∈l,p≤x.ae
 |y::l,p,h,x,hx=>by
  obtain⟨o1,o2,o3,o4⟩:=h
  unfold bw at o2
  rcases wad.1 hx with rfl|hx
  ·exact o1
  ·have:=o4.after x hx;omega
theorem QA{out:List Span}{p q:Int}(h:∀ y,out.getLast? =some y→y.ae+y.size<p):kL out p q=out++[⟨p,q-p⟩]:=by
 unfold kL
 cases hl:out.getLast? with
 |none=>rfl
 |some y=>simp only;rw[wI (by have:=h y hl;omega)]
theorem QC(all:Span)(ha:bw all)(L:List Span):∀ (l done:List Span) (p:Int) (out:List Span),L=done++l→(∀y∈done,y.ae+y.size≤p)→all.ae≤p→uJ (all.ae+all.size) p l→p≤all.ae+all.size→(∀y,out.getLast? =some y→y.ae+y.size<p)→
  pieces all L out (p::eJ (some p) (yY l++[⟨all.ae+all.size,0⟩]))=out++pZ (all.ae+all.size) p l
 |[],done,p,out,hL,hd,hp,_,dp,ho=>by
  show pieces all L out (p::((if some p=some (all.ae+all.size)then[]else[all.ae+all.size])++eJ _ []))=_
  rw[eJ,waw,pZ]
  by_cases hc:p<all.ae+all.size
  ·rw[wI (by simp only[wi];omega),wF hc,pieces,pieces.eq_2 _ _ _ _ (fun a b r e=>by cases e)]
   have h1:hasB all p=true:=wz ⟨ha,hp,by omega⟩
   have h2:mC L p=false:=by
    unfold mC
    rw[List.any_eq_false]
    intro y hy
    rw[hL,waw]at hy
    rw[Jb (.inr (hd y hy))]
    simp
   rw[h1,h2]
   simp only[wb0,wcm,wah]
   exact QA ho
  ·rw[wF (by simp only[wi];omega),wI hc,waw,pieces.eq_2 _ _ _ _ (fun a b r e=>by cases e)]
 |x::l,done,p,out,hL,hd,hp,zcR,dp,ho=>by
  obtain⟨o1,o2,o3,o4⟩:=zcR
  have hm:=o2
  unfold bw at hm
  have hL':L=(done++[x])++l:=by rw[hL];simp
  have jk:∀ y∈done++[x],y.ae+y.size≤x.ae+x.size:=fun y hy=>by
   rcases waI.1 hy with hy|hy
   ·have:=hd y hy;omega
   ·rw[waG]at hy;subst hy;omega
  have QE:mC L x.ae=true:=by
   unfold mC
   rw[List.any_eq_true]
   exact⟨x,by rw[hL];simp,wz ⟨o2,by omega,by omega⟩⟩
  have QF:=fun out bG=>QC all ha L l (done++[x]) (x.ae+x.size) out hL' jk (by omega) o4 o3 bG
  have he:eJ (some p) (yY (x::l)++[⟨all.ae+all.size,0⟩])=(if p=x.ae then[]else[x.ae])++(x.ae+x.size)::eJ (some (x.ae+x.size)) (yY l++[⟨all.ae+all.size,0⟩]):=by
   show(if some p=some x.ae then[]else[x.ae])++((if some x.ae=some (x.ae+x.size)then[]else[x.ae+x.size])++eJ _ _)=_
   rw[wI (show ¬some x.ae=some (x.ae+x.size) by simp only[wi];omega)]
   simp only[wi]
   rfl
  rw[he,pZ]
  by_cases hc:p<x.ae
  ·rw[wI (by omega),wF hc,List.singleton_append,pieces,pieces]
   have h1:hasB all p=true:=wz ⟨ha,hp,by omega⟩
   have h2:mC L p=false:=by
    unfold mC
    rw[List.any_eq_false]
    intro y hy
    rw[hL]at hy
    rcases waI.1 hy with hy|hy
    ·rw[Jb (.inr (hd y hy))];simp
    ·have:x.ae≤y.ae:=by
      rcases wad.1 hy with rfl|hy
      ·omega
      ·have:=o4.after y hy;omega
     rw[Jb (.inl (by omega))];simp
   rw[h1,h2,QE]
   simp only[wb0,wa7,wcm,wcP,wah,wG,waa]
   rw[QA ho,QF _ (fun y hy=>by rw[List.getLast?_append]at hy;simp at hy;subst hy;simp only;omega),waP]
  ·have:p=x.ae:=by omega
   subst this
   rw[wF rfl,wI hc,wL,wL,pieces,QE]
   simp only[wa7,wcP,wG,waa]
   exact QF _ fun y hy=>by have:=ho y hy;omega
theorem zcS{all:Span}{l:List Span}(h:fI all none l=true):pY all l=sj all l:=by
 by_cases ha:bw all
 ·have ho:=Qw (q:=all.ae) h (fun y e=>by cases e) (fun _=>rfl)
  have hm:=ha
  unfold bw at hm
  rw[zcQ ha ho,pY,pX,lJ]
  have he:eI (all::l)=⟨all.ae,0⟩::⟨all.ae+all.size,0⟩::eI l:=by simp[eI,wF ha]
  rw[he,wb4,wb4,show gE (gE [] ⟨all.ae,0⟩) ⟨all.ae+all.size,0⟩=[⟨all.ae,0⟩]++[⟨all.ae+all.size,0⟩]from ?_,Qz _ l all.ae [⟨all.ae,0⟩] (fun y hy=>by rw[waG]at hy;subst hy;simp) ho]
  ·exact QC all ha l l [] all.ae [] rfl (fun y hy=>by cases hy) (Int.le_refl _) ho (by omega) (fun y hy=>by cases hy)
  ·have hp:mB ⟨all.ae+all.size,0⟩ [⟨all.ae,0⟩] 1=1:=Qx _ _ 1 (fun y _ hy=>by
    simp only[wbS,wQ,wi]at hy
    subst hy
    unfold rf
    rw[wal]
    simp only
    omega) (by simp)
   show gE [⟨all.ae,0⟩] ⟨all.ae+all.size,0⟩=_
   unfold gE
   simp only[wbJ,hp]
   rfl
 ·have hl:l=[]:=by
   cases l with
   |nil=>rfl
   |cons x l=>
    rw[vY,wA,wA,wT]at h
    exact absurd h.1.1.2.1 ha
  subst hl
  rw[sj,wI ha,pY,pX,eI]
  simp[wI ha,lJ,eJ,pieces]
def kM(all:Span):Option Span→List Span→Bool
 |_,[]=>true
 |p,x::l=>decide (lC x all)&&(match p with|none=>true|some y=>decide (y.ae<x.ae))&&kM all (some x) l
def iC(done:List Span):List Span→Bool
 |[]=>true
 |x::l=>decide (bw x)&&done.all (fun y=> !decide (kC x y))&&iC (done++[x]) l
def uK(all:Span)(l free:List Span):Bool:=kM all none l&&iC [] l&&decide (pY all l=free)
theorem Jc(all:Span)(p:Option Span)(x:Span)(l:List Span):kM all p (x::l)=(decide (lC x all)&&(match p with|none=>true|some y=>decide (y.ae<x.ae))&&kM all (some x) l):=by cases p<;>rfl
theorem QG{all:Span}:∀ {l:List Span} {p:Option Span},fI all p l=true→(∀y,p=some y→bw y)→kM all p l=true
 |[],_,_,_=>by cases ‹Option Span› <;>rfl
 |x::l,p,h,hp=>by
  rw[vY,wA,wA,wT]at h
  obtain⟨⟨hw,hq⟩,hl⟩:=h
  rw[Jc,wA,wA,wT]
  refine⟨⟨hw,?_⟩,QG hl fun y e=>by cases e;exact hw.1⟩
  cases p with
  |none=>rfl
  |some y=>
   have h1:=hp y rfl
   unfold bw at h1
   have h2:y.ae+y.size≤x.ae:=wap hq
   exact wz (by omega)
theorem QI{all:Span}:∀ {l:List Span} {p:Option Span} {done:List Span},fI all p l=true→(∀y∈done,∀x∈l,y.ae+y.size≤x.ae)→iC done l=true
 |[],_,_,_,_=>rfl
 |x::l,p,done,h,hd=>by
  rw[vY,wA,wA,wT]at h
  obtain⟨⟨hw,hq⟩,hl⟩:=h
  rw[iC,wA,wA,wT]
  refine⟨⟨hw.1,?_⟩,QI hl fun y hy z hz=>?_⟩
  ·rw[waC]
   intro y hy
   have:=hd y hy x (wW ..)
   rw[wx]
   ·rfl
   ·unfold kC Span.stop
    omega
  ·rcases waI.1 hy with hy|hy
   ·exact hd y hy z (wM _ hz)
   ·rw[waG]at hy
    subst hy
    exact(uv hl).2.2 _ rfl z hz
theorem QJ{all:Span}:∀ {l:List Span} {p:Option Span} {done:List Span},kM all p l=true→iC done l=true→(∀y,p=some y→y∈done∧bw y)→fI all p l=true
 |[],p,_,_,_,_=>by cases p<;>rfl
 |x::l,p,done,h,ha,hd=>by
  rw[Jc,wA,wA,wT]at h
  obtain⟨⟨hw,hq⟩,hl⟩:=h
  rw[iC,wA,wA,wT]at ha
  obtain⟨⟨hm,hn⟩,hr⟩:=ha
  rw[vY,wA,wA,wT]
  refine⟨⟨hw,?_⟩,QJ hl hr fun y e=>by cases e;exact⟨List.mem_append_right _ (waG.2 rfl),hm⟩⟩
  cases p with
  |none=>rfl
  |some y=>
   obtain⟨h1,h2⟩:=hd y rfl
   have h3:y.ae<x.ae:=wap hq
   have h4:=waC.1 hn y h1
   rw[wbt,wal]at h4
   unfold kC Span.stop at h4
   have eE:=hm
   unfold bw at eE
   exact wz (by
    by_cases hc:y.ae+y.size≤x.ae
    ·exact hc
    ·exact absurd ⟨hm,h2,by omega,by omega⟩ h4)
theorem zcT(all:Span)(l:List Span):(kM all none l&&iC [] l)=fI all none l:=by
 cases h:fI all none l with
 |true=>rw[QG h (fun y e=>by cases e),QI h (fun y hy=>by cases hy)];rfl
 |false=>
  cases h1:kM all none l with
  |false=>rfl
  |true=>
   cases h2:iC [] l with
   |false=>rfl
   |true=>rw[QJ h1 h2 (fun y e=>by cases e)]at h;cases h
theorem zcU(all:Span)(l free:List Span):uK all l free=jQ all l free:=by
 unfold uK jQ
 rw[zcT]
 cases h:fI all none l with
 |true=>rw[zcS h]
 |false=>rfl
set_option maxHeartbeats 4000000
theorem lI{E:Env}{g:Value}{args:List Value}{H:Heap}{v:Value}{Q:Value→Heap→Prop}(h:af E g args H fun r H'=>r=v∧H'=H)(q:Q v H):af E g args H Q:=
 h.mono (by rintro _ _ ⟨rfl,rfl⟩;exact q)
theorem zbU(H:Heap)(a:Int):af E (aC 214) [.int .i64 a] H fun r H'=>r= .bool false∧H'=H:=by
 refine aQ Tryz.f214 ?_
 simp only[Tryz.f214]
 simp(disch:=omega)only[↓aa,ab,simprocAttr,sa, *]
 all_goals first|exact⟨rfl,rfl⟩|trace_state
theorem mz(H:Heap)(a b:Int):af E (aC 152) [.int .i64 a,.int .i64 b] H fun r H'=>r= .bool (decide (a<b))∧H'=H:=by
 refine aQ Tryz.f152 ?_
 simp only[Tryz.f152]
 repeat'(first|((with_reducible show af _ _ _ _ _);refine lI (zbU _ _) ?_)|simp(disch:=omega)only[↓aa,ab,simprocAttr,sa, *])
 all_goals first|exact⟨rfl,rfl⟩|trace_state
theorem iX{i:Int}{n:Nat}(h0:0≤i)(h:i<n):at? i n=some i.toNat:=by
 obtain⟨k,rfl⟩:=wbz h0
 exact bI (by omega)
def lz(l:List Int)(i:Int):Int:=l.getD i.toNat 0
theorem ID{l:List Int}{i:Int}(h0:0≤i)(h:i<l.length):l[i.toNat]? =some (lz l i):=by
 unfold lz
 rw[wav,wj (show i.toNat<l.length by omega)]
 rfl
theorem Py{H:Heap}{a:Nat}(h:a=H.lo):H.cd a=H:=by subst h;rfl
def DS(b g:Nat)(H:Heap)(v:Value)(l:List Int):Prop:=OS b 1 H v l.length (l.map db) (some g)∧H.lo≤b∧l.length≤60000
def SD(b g:Nat)(H H':Heap)(v:Value)(l:List Int):Prop:=∃ l':List Int,l'.Perm l∧DS b g H' v l'∧eA b g H H'
theorem eA.trans{b g:Nat}{H X Y:Heap}(h:eA b g H X)(k:eA b g X Y):eA b g H Y:=
 ⟨k.lo.trans h.lo,wK h.ag k.ag,fun x hx=>⟨(k.below x hx).1.trans (h.below x hx).1,(k.below x hx).2.trans (h.below x hx).2⟩,fun x o hx ho hn=>k.objs x o (wq hx h.ag) (h.objs x o hx ho hn) hn,fun y hy hn=>(k.grps y (wq hy h.ag) hn).trans (h.grps y hy hn)⟩
section
variable{b g:Nat}{H X Y:Heap}{v:Value}{l:List Int}
theorem SD.trans{l':List Int}(h:SD b g X Y v l')(p:l'.Perm l)(e:eA b g H X):SD b g H Y v l:=by
 obtain⟨m,h1,h2,h3⟩:=h
 exact⟨m,h1.trans p,h2,e.trans h3⟩
theorem DS.set(h:DS b g X v l){i:Int}(h0:0≤i)(h1:i<l.length)(y:Int):∃ r k Y,v= .slice (some ⟨r,0,none⟩) l.length k∧X.write r i.toNat [.int .i64 y]=some Y∧DS b g Y v (l.set i.toNat y)∧eA b g X Y:=by
 obtain⟨r,k,Y,q1,q2,q3,q4⟩:=h.1.write (o:=i.toNat) (new:=[.int .i64 y]) h.2.1 rfl (by simp;omega)
 refine⟨r,k,Y,q1,q2,⟨?_,by rw[q4.lo];exact h.2.1,by rw[wcn];exact h.2.2⟩,q4⟩
 have e:over [.int .i64 y] i.toNat (l.map db)=(l.set i.toNat y).map db:=by
  rw[oY _ _ _ (by simp;omega),List.set_eq_take_append_cons_drop,wF (by omega),waT,wbk,List.map_take,List.map_drop,waP]
  rfl
 rw[e]at q3
 rw[wcn]
 exact q3
theorem zbV{l:List Int}{i j:Nat}(hi:i<l.length)(hj:j<l.length):((l.set i l[j]).set j l[i]).Perm l:=by
 have h:=Array.swap_perm (xs:=l.toArray) (i:=i) (j:=j) (by simpa using hi) (by simpa using hj)
 have e:(l.toArray.swap i j (by simpa using hi) (by simpa using hj)).toList=(l.set i l[j]).set j l[i]:=by simp[Array.swap]
 have:=Array.perm_iff_toList_perm.1 h
 rw[e]at this
 simpa using this
theorem DS.ko(h:DS b g H v l)(k:Ko H X)(e:X.lo=H.lo):DS b g X v l:=⟨h.1.ko k,by rw[e];exact h.2.1,h.2.2⟩
theorem DS.cU(h:DS b g H v l)(k:Ko H X)(e:X.lo=H.lo):eA b g H X:=by
 have hb:=h.1.lt g rfl
 exact⟨e,k.ag,fun x hx=>⟨k.objs x (by omega),k.grps x (by omega)⟩,fun x o hx ho _=>(k.objs x hx).trans ho,fun y hy _=>k.grps y hy⟩
theorem SD.ko(h:DS b g H v l)(k:Ko H X)(e:X.lo=H.lo):SD b g H X v l:=⟨l,List.Perm.refl _,h.ko k e,h.cU k e⟩
theorem DS.go{l':List Int}(h:DS b g X v l')(p:l'.Perm l)(e:eA b g H X):SD b g H X v l:=⟨l',p,h,e⟩
theorem DS.eZ{r n k:Nat}(h:DS b g X (.slice (some ⟨r,0,none⟩) n k) l):l.length=n∧n≤60000∧n≤k∧k≤1000000000∧∃ (full:List Value) (gg:Option (Nat×Nat)) (Y1 Y2:Int→Int→Heap) (F:Int→Int→List Value) (G:Int→Int→Option (Nat×Nat)),
  X.objs.get r=some (.row full gg true)∧
  (∀i:Int,0≤i→i<n→full[i.toNat]? =some (.int .i64 (lz l i)))∧
  (∀i j:Int,0≤i→i<n→0≤j→j<n→writeV X r i.toNat [.int .i64 (lz l j)] (some (.row full gg true))=some (Y1 i j))∧
  (∀i j:Int,0≤i→i<n→0≤j→j<n→(Y1 i j).objs.get r=some (.row (F i j) (G i j) true))∧
  (∀i j:Int,0≤i→i<n→0≤j→j<n→writeV (Y1 i j) r j.toNat [.int .i64 (lz l i)] (some (.row (F i j) (G i j) true))=some (Y2 i j))∧
  (∀i j:Int,0≤i→i<n→0≤j→j<n→SD b g X (Y2 i j) (.slice (some ⟨r,0,none⟩) n k) l)∧
  (∀(i j:Int) (a:Nat),0≤i→i<n→0≤j→j<n→a=X.lo→(Y1 i j).cd a=Y1 i j)∧
  (∀(i j:Int) (a:Nat),0≤i→i<n→0≤j→j<n→a=X.lo→(Y2 i j).cd a=Y2 i j)∧
  (∀i j:Int,0≤i→i<n→0≤j→j<n→(Y1 i j).lo=X.lo)∧
  (∀i j:Int,0≤i→i<n→0≤j→j<n→(Y2 i j).lo=X.lo):=by
 obtain⟨r',k',full,aS,s1,s2,s3,s4,s5, -⟩:=h.1
 simp only[waq,wi,wcE,wcl,wbT]at s1
 obtain⟨rfl,rfl,rfl⟩:=s1
 have key:∀ p:Int×Int,∃q:Heap×Heap×List Value×Option (Nat×Nat),0≤p.1→p.1<l.length→0≤p.2→p.2<l.length→
   writeV X r p.1.toNat [.int .i64 (lz l p.2)] (some (.row full (some (g,1)) true))=some q.1∧q.1.objs.get r=some (.row q.2.2.1 q.2.2.2 true)∧writeV q.1 r p.2.toNat [.int .i64 (lz l p.1)] (some (.row q.2.2.1 q.2.2.2 true))=some q.2.1∧SD b g X q.2.1 (.slice (some ⟨r,0,none⟩) l.length k) l∧q.1.lo=X.lo∧q.2.1.lo=X.lo:=by
  rintro⟨i,j⟩
  dsimp only
  by_cases hc:0≤i∧i<l.length∧0≤j∧j<l.length
  ·obtain⟨h1,h2,h3,h4⟩:=hc
   obtain⟨r1,k1,Y1,q1,q2,q3,q4⟩:=h.set h1 h2 (lz l j)
   obtain⟨r2,k2,Y2,p1,p2,p3,p4⟩:=q3.set h3 (by rw[wcn];exact h4) (lz l i)
   obtain⟨r3,k3,zbW,zig,t1,t2,t3,t4,t5, -⟩:=q3.1
   simp only[waq,wi,wcE,wcl,wbT]at q1 p1 t1
   obtain⟨rfl,rfl⟩:=q1
   obtain⟨rfl, -⟩:=p1
   obtain⟨rfl, -⟩:=t1
   refine⟨⟨Y1,Y2,zbW,some (g,1)⟩,fun _ _ _ _=>⟨by rw[←s5,←AL];exact q2,t5,by rw[←t5,←AL];exact p2,⟨_,?_,p3,q4.trans p4⟩,q4.lo,(q4.trans p4).lo⟩⟩
   have hp:=zbV (l:=l) (i:=i.toNat) (j:=j.toNat) (by omega) (by omega)
   have a1:=ID h1 h2
   have a2:=ID h3 h4
   rw[wj (by omega)]at a1 a2
   rw[waH a1,waH a2]at hp
   exact hp
  ·exact⟨⟨X,X,[],none⟩,fun h1 h2 h3 h4=>absurd ⟨h1,h2,h3,h4⟩ hc⟩
 obtain⟨f,hk⟩:=Classical.axiomOfChoice key
 refine⟨rfl,h.2.2,s2.1,s2.2,full,some (g,1),fun i j=>(f (i,j)).1,fun i j=>(f (i,j)).2.1,fun i j=>(f (i,j)).2.2.1,fun i j=>(f (i,j)).2.2.2,s5,fun i h1 h2=>?_,fun i j h1 h2 h3 h4=>(hk (i,j) h1 h2 h3 h4).1,fun i j h1 h2 h3 h4=>(hk (i,j) h1 h2 h3 h4).2.1,fun i j h1 h2 h3 h4=>(hk (i,j) h1 h2 h3 h4).2.2.1,fun i j h1 h2 h3 h4=>(hk (i,j) h1 h2 h3 h4).2.2.2.1,fun i j a h1 h2 h3 h4 h5=>Py (h5.trans (hk (i,j) h1 h2 h3 h4).2.2.2.2.1.symm),fun i j a h1 h2 h3 h4 h5=>Py (h5.trans (hk (i,j) h1 h2 h3 h4).2.2.2.2.2.symm),fun i j h1 h2 h3 h4=>(hk (i,j) h1 h2 h3 h4).2.2.2.2.1,fun i j h1 h2 h3 h4=>(hk (i,j) h1 h2 h3 h4).2.2.2.2.2⟩
 have e:(l.map db)[i.toNat]? =some (.int .i64 (lz l i)):=by rw[war,ID h1 h2];rfl
 rw[←s4,wab,wF (by omega)]at e
 exact e
end
end Go.AM
