/-
  Walks over letters of the functions that the law reaches; written small by a program of mine.
-/
import Derived.Test.YtjgppeeplkidpaaGreatGC10
set_option linter.unusedVariables false
set_option linter.unusedSectionVars false
namespace Go.AM
attribute [local instance] fnMaps
open Go Go.Proofs
set_option maxRecDepth 100000
set_option maxHeartbeats 1000000
set_option linter.unusedSimpArgs false
def fx(ks:List Int)(w:Nat):Bool:=match dJ w with
 |none=>false
 |some v=>if v.kind=2 then decide (v.x∈ks)else true
theorem OF(H:Heap)(an:H.lo≤H.next){lp mp:Nat}{ks:List Int}{cells:List Value}(aC:H.objs.get lp=some (.row cells none true))(hc:cells[12]? =some (.map (some mp)))(hm:H.objs.get mp=some (.map (fW ks)))(l1:lp<H.next)(l2:mp<H.next)(w:Nat)(hw:w<2^64):af E (aK 244) [ptr lp 0,.int .u64 w] H fun r H'=>r= .bool (fx ks w)∧aq H H':=by
 refine aV Tryz.f244 ?_
 simp only[Tryz.f244]
 cases hd:dJ w with
 |none=>
  have e:fx ks w=false:=by unfold fx;rw[hd]
  repeat'(first|refine aw 2 [Fx,Fx,Fx,Fx,Fx,Fx,Fx,Fx,Fx,Fx,Fx,Fx,Fx,Fx,Fx,Fx,Fx] ?_|((with_reducible show af _ _ _ _ _);refine ao H (yR _ ah w hw) ?_;intro H2 k2 l2 n2 g2 q2;try simp(disch:=omega)only[sm,sl]at l2 n2 g2 q2)|simp(disch:=omega)only[↓aa,ab,simprocAttr,sa,cZ,Option.getD_none,Option.isSome_none, *])
  all_goals first
   |exact xW
   |contradiction
 |some v=>
  by_cases hk:v.kind=2
  ·have e:fx ks w=decide (v.x∈ks):=by unfold fx;rw[hd];exact wF hk
   repeat'(first|refine aw 2 [Fx,Fx,Fx,Fx,Fx,Fx,Fx,Fx,Fx,Fx,Fx,Fx,Fx,Fx,Fx,Fx,Fx] ?_|((with_reducible show af _ _ _ _ _);refine ao H (yR _ ah w hw) ?_;intro H2 k2 l2 n2 g2 q2;try simp(disch:=omega)only[sm,sl]at l2 n2 g2 q2)|simp(disch:=omega)only[↓aa,ab,simprocAttr,sa,cZ,wbr,wb1,zaN,zaO, *])
   all_goals first
    |exact xW
    |contradiction
  ·have e:fx ks w=true:=by unfold fx;rw[hd];exact wI hk
   repeat'(first|refine aw 2 [Fx,Fx,Fx,Fx,Fx,Fx,Fx,Fx,Fx,Fx,Fx,Fx,Fx,Fx,Fx,Fx,Fx] ?_|((with_reducible show af _ _ _ _ _);refine ao H (yR _ ah w hw) ?_;intro H2 k2 l2 n2 g2 q2;try simp(disch:=omega)only[sm,sl]at l2 n2 g2 q2)|simp(disch:=omega)only[↓aa,ab,simprocAttr,sa,cZ,wbr,wb1, *])
   all_goals first
    |exact xW
    |contradiction
def eF(s:Slot):Bool:=(dJ s.word).isSome&&(oO s.gen||(!s.used&&decide (s.gen=1099511627776)))&&(s.used||decide ((s.word:Int)=0))
def nh(l:List Slot)(n:Int):Bool:=l.all eF&&decide ((l.length:Int)=n∧1≤n∧n≤1024)
theorem zaT(H:Heap)(an:H.lo≤H.next)(v:Value)(l:List Slot)(hv:SL qS 3 H v l)(hu:∀ s∈l,s.word<2^64)(n:Int):af E (aK 242) [v,.int .i64 n] H fun r H'=>r= .bool (nh l n)∧aq H H':=by
 obtain⟨a,ca,rfl,⟨_,ft⟩,bs⟩:=hv
 refine aV Tryz.f242 ?_
 simp only[Tryz.f242]
 simp(disch:=omega)only[↓aa,ab,simprocAttr,sa, *]
 refine bP H [0,1,10,11,12] (fun T1 H1 u1 k1 n1 l1 g1=>?_) aj
 try simp(disch:=omega)only[sm,sl]at n1 l1 g1
 simp only[sq,simprocAttr]at u1
 refine bL kq (fun nn T X=>∃ i:Nat,nn=l.length-i∧(T.get 12=some (.int .i64 i))∧(T.get 0=T1.get 0∧T.get 1=T1.get 1∧T.get 10=T1.get 10∧T.get 11=T1.get 11)∧Ko H1 X∧X.lo=H1.lo∧(i≤l.length∧l.all eF=(l.drop i).all eF)) ?_ ?_
 ·refine⟨_,0,rfl,?_,?_,Ko.refl _,rfl,⟨wJ _,rfl⟩⟩<;>exact aJ
 rintro nn dA X1 ⟨i,rfl,m1,w1,kx1,eQ,⟨hi,hE⟩⟩ Qs hQ aG ai
 have bz:=k1.trans kx1;have dZ:=kx1.ag;have ed:=kx1.objs
 by_cases hlt:i<l.length
 ·obtain⟨r,o,cells,gg,tt,part,rfl,hr,aC,aR,rfl⟩:=bs i l[i] (by simp)
  have a1:=bn hlt
  have e1:=bz.objs r hr
  have hw:=hu l[i] (by simp)
  rw[wX hlt,wbu]at hE
  unfold qR at aR
  have pN:eF l[i]=true→l.all eF=(l.drop (i+1)).all eF:=fun h=>by rw[hE,h,wa9]
  have iW:eF l[i]=false→nh l n=false:=fun h=>by unfold nh;rw[hE,h];rfl
  cases hd:(dJ l[i].word).isSome with
  |false=>
   have hb:=iW (by unfold eF;rw[hd];rfl)
   repeat'(first|(apply ak<;>intro)|apply bw|refine cO (fun _=>?_) (fun _=>?_)|((with_reducible show af _ _ _ _ _);refine ao H1 (yR _ ah l[i].word hw) ?_;intro H2 k2 l2 n2 g2 q2;try simp(disch:=omega)only[sm,sl]at l2 n2 g2 q2)|((with_reducible show Qs _ _ _ _ _);first|refine ai _ _ _ _ ?_|refine aG _ _ _ ?_)|simp(disch:=omega)only[↓aa,ab,simprocAttr,sa,cZ, *])
   all_goals try omega
   all_goals first
    |exact⟨rfl,aA⟩
    |exact aA
  |true=>
   cases hg:oO l[i].gen<;>cases ni:l[i].used<;>cases zaU:decide (l[i].gen=1099511627776)<;>cases kB:decide ((l[i].word:Int)=0)
   all_goals
    have hs:eF l[i]=_:=(by unfold eF;rw[hd,hg,ni,zaU,kB])
    repeat'(first|(apply ak<;>intro)|((with_reducible show af _ _ _ _ _);(first|refine ao H1 (yR _ ah l[i].word hw) ?_|refine ao H1 (zaS _ ah _ _ _) ?_);intro H2 k2 l2 n2 g2 q2;try simp(disch:=omega)only[sm,sl]at l2 n2 g2 q2)|((with_reducible show Qs _ _ _ _ _);first|refine ai _ _ _ _ ?_|refine aG _ _ _ ?_)|simp(disch:=omega)only[↓aa,ab,simprocAttr,sa,cZ, *])
    all_goals try omega
   all_goals first
    |(have hb:=iW hs;rw[hb];exact⟨rfl,aA⟩)
    |(refine hQ _ _ _ ?_ ⟨i+1,rfl,?_,?_,?_,?_,⟨by omega,pN hs⟩⟩<;>exact aJ)
 ·have cF:l.all eF=true:=by rw[hE,waO (by omega)];rfl
  have hR:nh l n=decide ((l.length:Int)=n∧1≤n∧n≤1024):=by unfold nh;rw[cF];rfl
  repeat'(first|(apply ak<;>intro)|((with_reducible show Qs _ _ _ _ _);refine ai _ _ _ _ ?_)|simp(disch:=omega)only[↓aa,ab,simprocAttr,sa, *])
  all_goals try omega
  all_goals first
   |exact aA
   |exact⟨by simp,aA⟩
end Go.AM
