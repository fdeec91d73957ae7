/-
  Walks over letters of the functions that the law reaches; written small by a program of mine.
-/
import Derived.Test.YtjgppeeplkidpaaGreatGB0
import Derived.Test.YtjgppeeplkidpaaGreatAMc
set_option linter.unusedVariables false
set_option linter.unusedSectionVars false
namespace Go.AM
attribute [local instance] fnMaps
open Go Go.Proofs
set_option maxRecDepth 100000
set_option maxHeartbeats 1000000
set_option linter.unusedSimpArgs false
structure Hd where
 kind:Int
 fields:Int
 bO:Int
 mark:Bool
 fq:Int
def PW(h:Hd):List Value:=[.int .i64 h.kind,.int .i64 h.fields,.int .i64 h.bO,.bool h.mark,.int .i64 h.fq]
def bK(h:Hd):Value:= .agg #[.int .i64 h.kind,.int .i64 h.fields,.int .i64 h.bO,.bool h.mark,.int .i64 h.fq]
def ik(h:Hd):Int:=if h.mark then 1 else 0
def du(h:Hd):Nat→Int
 |0=>ik h
 |1=>h.kind
 |2=>h.fields
 |3=>h.bO
 |_=>h.fq
def pT:Nat→Nat
 |0=>2
 |1=>3
 |2=>8
 |3=>24
 |_=>40
def jZ:Nat→Int
 |0=>1
 |1=>31
 |2=>4096
 |3=>4096
 |_=>1048576
def wH(h:Hd):Nat→Nat
 |0=>3
 |i+1=>wH h i+(du h i).toNat*2^pT i
def fZ(h:Hd)(i:Nat):Bool:=if decide (du h i<0)then false else !decide (jZ i<du h i)
def gy(h:Hd):Bool:=(List.range 5).all (fZ h)
theorem nz{h:Hd}{i:Nat}(hk:fZ h i=true):0≤du h i∧du h i≤jZ i:=by
 simp[fZ]at hk
 omega
theorem Br{h:Hd}:∀ {i:Nat},i≤4→(∀j,j<i→fZ h j=true)→wH h i<2^pT i
 |0,_,_=>by show 3<2^2;decide
 |1,_,hj=>by
  have h0:=nz (hj 0 (by omega))
  simp only[wH,du,jZ,pT]at h0⊢
  omega
 |2,_,hj=>by
  have h0:=nz (hj 0 (by omega))
  have h1:=nz (hj 1 (by omega))
  simp only[wH,du,jZ,pT]at h0 h1⊢
  omega
 |3,_,hj=>by
  have h0:=nz (hj 0 (by omega))
  have h1:=nz (hj 1 (by omega))
  have h2:=nz (hj 2 (by omega))
  simp only[wH,du,jZ,pT]at h0 h1 h2⊢
  omega
 |4,_,hj=>by
  have h0:=nz (hj 0 (by omega))
  have h1:=nz (hj 1 (by omega))
  have h2:=nz (hj 2 (by omega))
  have h3:=nz (hj 3 (by omega))
  simp only[wH,du,jZ,pT]at h0 h1 h2 h3⊢
  omega
theorem Bs(H:Heap)(aj:H.lo≤H.next)(w x A N:Nat)(hw:w<2^A)(hx:x<2^N)(hA:A<64)(hN:1≤N)(hNA:N+A≤64):af E (aC 205) [.int .u64 (w:Int),.int .i64 (A:Int),.int .i64 (N:Int),.int .u64 (x:Int)] H fun r H'=>r= .tuple #[.int .u64 ((w+x*2^A:Nat):Int),.bool true]∧aq H H':=by
 have kJ:w<2^64:=wq hw (wbg (by omega) (by omega))
 have zci:x<2^64:=wq hx (wbg (by omega) (by omega))
 refine(zch H aj w x kJ zci A N).mono ?_
 rintro r H2 ⟨rfl,s2⟩
 have hp:ny (A:Int) (N:Int)=true:=by
  simp[ny];omega
 have cx:sM (A:Int) (N:Int) x=true:=by simp only[sM,hp,wah,waD];simpa using hx
 refine⟨?_,s2⟩
 rw[cx]
 simp only[wah,waD]
 rw[zcg hw hNA]
theorem zcj(H:Heap)(aj:H.lo≤H.next)(h:Hd):af E (aC 204) [bK h] H fun r H'=>r= .agg #[.int .i64 (ik h),.int .i64 h.kind,.int .i64 h.fields,.int .i64 h.bO,.int .i64 h.fq]∧aq H H':=by
 refine aQ Tryz.f204 ?_
 simp only[Tryz.f204,bK]
 have s1:aq H ((H.newRow [.int .i64 h.kind,.int .i64 h.fields,.int .i64 h.bO,.bool h.mark,.int .i64 h.fq]).newRow [.int .i64 0,.int .i64 0,.int .i64 0,.int .i64 0,.int .i64 0]):=(fx _).newRow _
 cases hm:h.mark
 ·rw[hm]at s1
  simp(disch:=omega)only[↓aa,ab,simprocAttr,sa]
  exact⟨by simp only[ik,hm];rfl,s1.setRow (by omega) _⟩
 ·rw[hm]at s1
  simp(disch:=omega)only[↓aa,ab,simprocAttr,sa]
  exact⟨by simp only[ik,hm];rfl,s1.setRow (by omega) _⟩
theorem PX(H:Heap)(aj:H.lo≤H.next):af E (aC 142) [] H fun r H'=>r= .agg #[.int .i64 2,.int .i64 1,.int .i64 1,.int .i64 3,.int .i64 5,.int .i64 31,.int .i64 8,.int .i64 16,.int .i64 4096,.int .i64 24,.int .i64 16,.int .i64 4096,.int .i64 40,.int .i64 24,.int .i64 1048576]∧aq H H':=by
 refine aQ Tryz.f142 ?_
 simp only[Tryz.f142]
 simp(disch:=omega)only[↓aa,ab,simprocAttr,sa]
 exact od _ _ _
theorem PY(H:Heap)(aj:H.lo≤H.next)(h:Hd):af E (aC 144) [bK h] H fun r H'=>r= .tuple #[.int .u64 ((if gy h then wH h 5 else 0:Nat):Int),.int .i64 (if gy h then 0 else 1)]∧aq H H':=by
 refine aQ Tryz.f144 ?_
 simp only[Tryz.f144,bK]
 simp(disch:=omega)only[↓aa,ab,simprocAttr,sa]
 refine ym (fun H1 e1=>?_)
 have s1:aq H H1:=by rw[e1];exact fx _
 have n1:H1.next=H.next+1:=by rw[e1];simp(disch:=omega)only[aA,aM,aB,aJ,aH,aI,aN,aO,aR,aP,aL,aE,aK,au,sl]
 have l1:=s1.lo
 clear e1
 refine(zcj H1 (by omega) h).mono ?_
 rintro r H2 ⟨rfl,s2⟩
 have n2:=s2.ag
 have l2:=s2.lo
 simp(disch:=omega)only[↓aa,ab,simprocAttr,sa]
 refine ym (fun H3 e3=>?_)
 have s3:aq H2 H3:=by rw[e3];exact od _ _ _
 have n3:H3.next=H2.next+1:=by rw[e3];simp(disch:=omega)only[aA,aM,aB,aJ,aH,aI,aN,aO,aR,aP,aL,aE,aK,au,sl]
 have l3:=s3.lo
 have gN:H3.objs.get H2.next=some (.row [.int .i64 (ik h),.int .i64 h.kind,.int .i64 h.fields,.int .i64 h.bO,.int .i64 h.fq] none true):=by rw[e3];simp(disch:=omega)only[aA,aM,aB,aJ,aH,aI,aN,aO,aR,aP,aL,aE,aK,au,sl]
 clear e3
 refine(PX H3 (by omega)).mono ?_
 rintro r H4 ⟨rfl,s4⟩
 have n4:=s4.ag
 have l4:=s4.lo
 have gN:=s4.keeps (by omega) gN
 have pU:=s1.trans (s2.trans (s3.trans s4))
 refine E9 kq (fun k T X=>∃ i:Nat,k=5-i∧i≤5∧T.get 11=some (.int .i64 i)∧T.get 4=some (.int .u64 (wH h i:Nat))∧T.get 5=some (ptr H2.next 0)∧T.get 10=some (.agg #[.int .i64 2,.int .i64 1,.int .i64 1,.int .i64 3,.int .i64 5,.int .i64 31,.int .i64 8,.int .i64 16,.int .i64 4096,.int .i64 24,.int .i64 16,.int .i64 4096,.int .i64 40,.int .i64 24,.int .i64 1048576])∧aq H4 X∧∀ j,j<i→fZ h j=true) 5 ?_ ?_
 ·exact⟨0,by omega,by omega,rfl,rfl,rfl,rfl,aq.refl _,fun j h=>absurd h (by omega)⟩
 rintro k T X ⟨i,rfl,hi,aV,h4,h5,aY,s,cP⟩ Qs hQ aD ai
 have nX:=s.ag
 have lX:=s.lo
 have gX:=s.keeps (by omega) gN
 have bad:i≤4→fZ h i=false→gy h=false:=by
  intro h1 h2
  rw[gy,wcD]
  exact⟨i,by simp;omega,by simp[h2]⟩
 have more:i≤4→fZ h i=true→∀ j,j<i+1→fZ h j=true:=by
  intro h1 h2 j hj
  by_cases e:j=i
  ·subst e;exact h2
  ·exact cP j (by omega)
 obtain rfl|rfl|rfl|rfl|rfl|rfl:i=0∨i=1∨i=2∨i=3∨i=4∨i=5:=by omega
 ·have fG:=Br (h:=h) (i:=0) (by omega) cP
  replace aV:T.get 11=some (.int .i64 0):=aV
  have sB:=od X [Value.int .i64 0,Value.int .i64 0,Value.int .i64 0] [Value.int .i64 2,Value.int .i64 1,Value.int .i64 1]
  cases y1:decide (ik h<0)
  case true=>
   simp(disch:=omega)only[↓aa,ab,simprocAttr,sa,aV,aY,gX]
   refine ic [(false,[],[]),(false,[],[]),(false,[],[]),(false,[],[]),(false,[],[]),(false,[],[]),(false,[],[]),(false,[],[]),(false,[],[]),(false,[],[]),(false,[],[]),(false,[],[])] kq ?_
   simp(disch:=omega)only[↓aa,ab,simprocAttr,sa,aV,aY,h5,gX,y1]
   refine aD _ _ _ ?_
   simp(disch:=omega)only[↓aa,ab,simprocAttr,sa]
   have cx:=bad (by omega) (by simp only[fZ,du,y1];rfl)
   rw[cx]
   exact⟨rfl,pU.trans (s.trans sB)⟩
  cases y2:decide (1<ik h)
  case true=>
   simp(disch:=omega)only[↓aa,ab,simprocAttr,sa,aV,aY,gX]
   refine ic [(false,[],[]),(false,[],[]),(false,[],[]),(false,[],[]),(false,[],[]),(false,[],[]),(false,[],[]),(false,[],[]),(false,[],[]),(false,[],[]),(false,[],[]),(false,[],[])] kq ?_
   simp(disch:=omega)only[↓aa,ab,simprocAttr,sa,aV,aY,h5,gX,y1,y2]
   refine aD _ _ _ ?_
   simp(disch:=omega)only[↓aa,ab,simprocAttr,sa]
   have cx:=bad (by omega) (by simp only[fZ,du,jZ,y1,y2];rfl)
   rw[cx]
   exact⟨rfl,pU.trans (s.trans sB)⟩
  have hk:=more (by omega) (by simp only[fZ,du,jZ,y1,y2];rfl)
  have y3:0≤ik h:=by rw[wal]at y1;omega
  have y4:ik h≤1:=by rw[wal]at y2;omega
  obtain⟨x,hx⟩:∃ x:Nat,ik h=x:=⟨(ik h).toNat,by omega⟩
  have sO:(du h 0).toNat=x:=by simp only[du,hx,waD]
  have ng:IntKind.u64.wrap (ik h)=(x:Int):=by rw[wrap_u64 (by omega) (by omega)];exact hx
  simp(disch:=omega)only[↓aa,ab,simprocAttr,sa,aV,aY,gX]
  refine ic [(false,[],[]),(false,[],[]),(false,[],[]),(false,[],[]),(false,[],[]),(false,[],[]),(false,[],[]),(false,[],[]),(false,[],[]),(false,[],[]),(false,[],[]),(false,[],[])] kq ?_
  simp(disch:=omega)only[↓aa,ab,simprocAttr,sa,aV,aY,h5,h4,gX,y1,y2]
  refine ic [(false,[],[]),(false,[],[]),(false,[],[]),(false,[],[]),(false,[],[]),(false,[],[]),(false,[],[]),(false,[],[]),(false,[],[]),(false,[],[]),(false,[],[]),(false,[],[]),(false,[],[]),(false,[],[])] kq ?_
  simp(disch:=omega)only[↓aa,ab,simprocAttr,sa,aV,aY,h5,h4,gX,ng]
  refine(Bs _ (by simp(disch:=omega)only[aA,aM,aB,aJ,aH,aI,aN,aO,aR,aP,aL,aE,aK,au,sl];omega) (wH h 0) x 2 1 fG (by omega) (by omega) (by omega) (by omega)).mono ?_
  rintro r X2 ⟨rfl,eC⟩
  have jz:=eC.lo
  simp only[aI,aH]at jz
  have nu:wH h 1=wH h 0+x*2^2:=by
   show wH h 0+(du h 0).toNat*2^pT 0=_
   rw[sO];rfl
  simp(disch:=omega)only[↓aa,ab,simprocAttr,sa,aV]
  refine hQ _ _ (5-1) (by omega) ?_
  refine⟨1,rfl,by omega,?_,?_,?_,?_,s.trans (sB.trans eC),hk⟩
  ·simp(disch:=omega)only[↓aa,ab,simprocAttr,sa,aV]
   try rfl
  ·rw[nu]
   simp(disch:=omega)only[↓aa,ab,simprocAttr,sa]
  ·simp(disch:=omega)only[↓aa,ab,simprocAttr,sa,h5]
  ·simp(disch:=omega)only[↓aa,ab,simprocAttr,sa,aY]
 ·have fG:=Br (h:=h) (i:=1) (by omega) cP
  replace aV:T.get 11=some (.int .i64 1):=aV
  have sB:=od X [Value.int .i64 0,Value.int .i64 0,Value.int .i64 0] [Value.int .i64 3,Value.int .i64 5,Value.int .i64 31]
  cases y1:decide (h.kind<0)
  case true=>
   simp(disch:=omega)only[↓aa,ab,simprocAttr,sa,aV,aY,gX]
   refine ic [(false,[],[]),(false,[],[]),(false,[],[]),(false,[],[]),(false,[],[]),(false,[],[]),(false,[],[]),(false,[],[]),(false,[],[]),(false,[],[]),(false,[],[]),(false,[],[])] kq ?_
   simp(disch:=omega)only[↓aa,ab,simprocAttr,sa,aV,aY,h5,gX,y1]
   refine aD _ _ _ ?_
   simp(disch:=omega)only[↓aa,ab,simprocAttr,sa]
   have cx:=bad (by omega) (by simp only[fZ,du,y1];rfl)
   rw[cx]
   exact⟨rfl,pU.trans (s.trans sB)⟩
  cases y2:decide (31<h.kind)
  case true=>
   simp(disch:=omega)only[↓aa,ab,simprocAttr,sa,aV,aY,gX]
   refine ic [(false,[],[]),(false,[],[]),(false,[],[]),(false,[],[]),(false,[],[]),(false,[],[]),(false,[],[]),(false,[],[]),(false,[],[]),(false,[],[]),(false,[],[]),(false,[],[])] kq ?_
   simp(disch:=omega)only[↓aa,ab,simprocAttr,sa,aV,aY,h5,gX,y1,y2]
   refine aD _ _ _ ?_
   simp(disch:=omega)only[↓aa,ab,simprocAttr,sa]
   have cx:=bad (by omega) (by simp only[fZ,du,jZ,y1,y2];rfl)
   rw[cx]
   exact⟨rfl,pU.trans (s.trans sB)⟩
  have hk:=more (by omega) (by simp only[fZ,du,jZ,y1,y2];rfl)
  have y3:0≤h.kind:=by rw[wal]at y1;omega
  have y4:h.kind≤31:=by rw[wal]at y2;omega
  obtain⟨x,hx⟩:∃ x:Nat,h.kind=x:=⟨(h.kind).toNat,by omega⟩
  have sO:(du h 1).toNat=x:=by simp only[du,hx,waD]
  have ng:IntKind.u64.wrap (h.kind)=(x:Int):=by rw[wrap_u64 (by omega) (by omega)];exact hx
  simp(disch:=omega)only[↓aa,ab,simprocAttr,sa,aV,aY,gX]
  refine ic [(false,[],[]),(false,[],[]),(false,[],[]),(false,[],[]),(false,[],[]),(false,[],[]),(false,[],[]),(false,[],[]),(false,[],[]),(false,[],[]),(false,[],[]),(false,[],[])] kq ?_
  simp(disch:=omega)only[↓aa,ab,simprocAttr,sa,aV,aY,h5,h4,gX,y1,y2]
  refine ic [(false,[],[]),(false,[],[]),(false,[],[]),(false,[],[]),(false,[],[]),(false,[],[]),(false,[],[]),(false,[],[]),(false,[],[]),(false,[],[]),(false,[],[]),(false,[],[]),(false,[],[]),(false,[],[])] kq ?_
  simp(disch:=omega)only[↓aa,ab,simprocAttr,sa,aV,aY,h5,h4,gX,ng]
  refine(Bs _ (by simp(disch:=omega)only[aA,aM,aB,aJ,aH,aI,aN,aO,aR,aP,aL,aE,aK,au,sl];omega) (wH h 1) x 3 5 fG (by omega) (by omega) (by omega) (by omega)).mono ?_
  rintro r X2 ⟨rfl,eC⟩
  have jz:=eC.lo
  simp only[aI,aH]at jz
  have nu:wH h 2=wH h 1+x*2^3:=by
   show wH h 1+(du h 1).toNat*2^pT 1=_
   rw[sO];rfl
  simp(disch:=omega)only[↓aa,ab,simprocAttr,sa,aV]
  refine hQ _ _ (5-2) (by omega) ?_
  refine⟨2,rfl,by omega,?_,?_,?_,?_,s.trans (sB.trans eC),hk⟩
  ·simp(disch:=omega)only[↓aa,ab,simprocAttr,sa,aV]
   try rfl
  ·rw[nu]
   simp(disch:=omega)only[↓aa,ab,simprocAttr,sa]
  ·simp(disch:=omega)only[↓aa,ab,simprocAttr,sa,h5]
  ·simp(disch:=omega)only[↓aa,ab,simprocAttr,sa,aY]
 ·have fG:=Br (h:=h) (i:=2) (by omega) cP
  replace aV:T.get 11=some (.int .i64 2):=aV
  have sB:=od X [Value.int .i64 0,Value.int .i64 0,Value.int .i64 0] [Value.int .i64 8,Value.int .i64 16,Value.int .i64 4096]
  cases y1:decide (h.fields<0)
  case true=>
   simp(disch:=omega)only[↓aa,ab,simprocAttr,sa,aV,aY,gX]
   refine ic [(false,[],[]),(false,[],[]),(false,[],[]),(false,[],[]),(false,[],[]),(false,[],[]),(false,[],[]),(false,[],[]),(false,[],[]),(false,[],[]),(false,[],[]),(false,[],[])] kq ?_
   simp(disch:=omega)only[↓aa,ab,simprocAttr,sa,aV,aY,h5,gX,y1]
   refine aD _ _ _ ?_
   simp(disch:=omega)only[↓aa,ab,simprocAttr,sa]
   have cx:=bad (by omega) (by simp only[fZ,du,y1];rfl)
   rw[cx]
   exact⟨rfl,pU.trans (s.trans sB)⟩
  cases y2:decide (4096<h.fields)
  case true=>
   simp(disch:=omega)only[↓aa,ab,simprocAttr,sa,aV,aY,gX]
   refine ic [(false,[],[]),(false,[],[]),(false,[],[]),(false,[],[]),(false,[],[]),(false,[],[]),(false,[],[]),(false,[],[]),(false,[],[]),(false,[],[]),(false,[],[]),(false,[],[])] kq ?_
   simp(disch:=omega)only[↓aa,ab,simprocAttr,sa,aV,aY,h5,gX,y1,y2]
   refine aD _ _ _ ?_
   simp(disch:=omega)only[↓aa,ab,simprocAttr,sa]
   have cx:=bad (by omega) (by simp only[fZ,du,jZ,y1,y2];rfl)
   rw[cx]
   exact⟨rfl,pU.trans (s.trans sB)⟩
  have hk:=more (by omega) (by simp only[fZ,du,jZ,y1,y2];rfl)
  have y3:0≤h.fields:=by rw[wal]at y1;omega
  have y4:h.fields≤4096:=by rw[wal]at y2;omega
  obtain⟨x,hx⟩:∃ x:Nat,h.fields=x:=⟨(h.fields).toNat,by omega⟩
  have sO:(du h 2).toNat=x:=by simp only[du,hx,waD]
  have ng:IntKind.u64.wrap (h.fields)=(x:Int):=by rw[wrap_u64 (by omega) (by omega)];exact hx
  simp(disch:=omega)only[↓aa,ab,simprocAttr,sa,aV,aY,gX]
  refine ic [(false,[],[]),(false,[],[]),(false,[],[]),(false,[],[]),(false,[],[]),(false,[],[]),(false,[],[]),(false,[],[]),(false,[],[]),(false,[],[]),(false,[],[]),(false,[],[])] kq ?_
  simp(disch:=omega)only[↓aa,ab,simprocAttr,sa,aV,aY,h5,h4,gX,y1,y2]
  refine ic [(false,[],[]),(false,[],[]),(false,[],[]),(false,[],[]),(false,[],[]),(false,[],[]),(false,[],[]),(false,[],[]),(false,[],[]),(false,[],[]),(false,[],[]),(false,[],[]),(false,[],[]),(false,[],[])] kq ?_
  simp(disch:=omega)only[↓aa,ab,simprocAttr,sa,aV,aY,h5,h4,gX,ng]
  refine(Bs _ (by simp(disch:=omega)only[aA,aM,aB,aJ,aH,aI,aN,aO,aR,aP,aL,aE,aK,au,sl];omega) (wH h 2) x 8 16 fG (by omega) (by omega) (by omega) (by omega)).mono ?_
  rintro r X2 ⟨rfl,eC⟩
  have jz:=eC.lo
  simp only[aI,aH]at jz
  have nu:wH h 3=wH h 2+x*2^8:=by
   show wH h 2+(du h 2).toNat*2^pT 2=_
   rw[sO];rfl
  simp(disch:=omega)only[↓aa,ab,simprocAttr,sa,aV]
  refine hQ _ _ (5-3) (by omega) ?_
  refine⟨3,rfl,by omega,?_,?_,?_,?_,s.trans (sB.trans eC),hk⟩
  ·simp(disch:=omega)only[↓aa,ab,simprocAttr,sa,aV]
   try rfl
  ·rw[nu]
   simp(disch:=omega)only[↓aa,ab,simprocAttr,sa]
  ·simp(disch:=omega)only[↓aa,ab,simprocAttr,sa,h5]
  ·simp(disch:=omega)only[↓aa,ab,simprocAttr,sa,aY]
 ·have fG:=Br (h:=h) (i:=3) (by omega) cP
  replace aV:T.get 11=some (.int .i64 3):=aV
  have sB:=od X [Value.int .i64 0,Value.int .i64 0,Value.int .i64 0] [Value.int .i64 24,Value.int .i64 16,Value.int .i64 4096]
  cases y1:decide (h.bO<0)
  case true=>
   simp(disch:=omega)only[↓aa,ab,simprocAttr,sa,aV,aY,gX]
   refine ic [(false,[],[]),(false,[],[]),(false,[],[]),(false,[],[]),(false,[],[]),(false,[],[]),(false,[],[]),(false,[],[]),(false,[],[]),(false,[],[]),(false,[],[]),(false,[],[])] kq ?_
   simp(disch:=omega)only[↓aa,ab,simprocAttr,sa,aV,aY,h5,gX,y1]
   refine aD _ _ _ ?_
   simp(disch:=omega)only[↓aa,ab,simprocAttr,sa]
   have cx:=bad (by omega) (by simp only[fZ,du,y1];rfl)
   rw[cx]
   exact⟨rfl,pU.trans (s.trans sB)⟩
  cases y2:decide (4096<h.bO)
  case true=>
   simp(disch:=omega)only[↓aa,ab,simprocAttr,sa,aV,aY,gX]
   refine ic [(false,[],[]),(false,[],[]),(false,[],[]),(false,[],[]),(false,[],[]),(false,[],[]),(false,[],[]),(false,[],[]),(false,[],[]),(false,[],[]),(false,[],[]),(false,[],[])] kq ?_
   simp(disch:=omega)only[↓aa,ab,simprocAttr,sa,aV,aY,h5,gX,y1,y2]
   refine aD _ _ _ ?_
   simp(disch:=omega)only[↓aa,ab,simprocAttr,sa]
   have cx:=bad (by omega) (by simp only[fZ,du,jZ,y1,y2];rfl)
   rw[cx]
   exact⟨rfl,pU.trans (s.trans sB)⟩
  have hk:=more (by omega) (by simp only[fZ,du,jZ,y1,y2];rfl)
  have y3:0≤h.bO:=by rw[wal]at y1;omega
  have y4:h.bO≤4096:=by rw[wal]at y2;omega
  obtain⟨x,hx⟩:∃ x:Nat,h.bO=x:=⟨(h.bO).toNat,by omega⟩
  have sO:(du h 3).toNat=x:=by simp only[du,hx,waD]
  have ng:IntKind.u64.wrap (h.bO)=(x:Int):=by rw[wrap_u64 (by omega) (by omega)];exact hx
  simp(disch:=omega)only[↓aa,ab,simprocAttr,sa,aV,aY,gX]
  refine ic [(false,[],[]),(false,[],[]),(false,[],[]),(false,[],[]),(false,[],[]),(false,[],[]),(false,[],[]),(false,[],[]),(false,[],[]),(false,[],[]),(false,[],[]),(false,[],[])] kq ?_
  simp(disch:=omega)only[↓aa,ab,simprocAttr,sa,aV,aY,h5,h4,gX,y1,y2]
  refine ic [(false,[],[]),(false,[],[]),(false,[],[]),(false,[],[]),(false,[],[]),(false,[],[]),(false,[],[]),(false,[],[]),(false,[],[]),(false,[],[]),(false,[],[]),(false,[],[]),(false,[],[]),(false,[],[])] kq ?_
  simp(disch:=omega)only[↓aa,ab,simprocAttr,sa,aV,aY,h5,h4,gX,ng]
  refine(Bs _ (by simp(disch:=omega)only[aA,aM,aB,aJ,aH,aI,aN,aO,aR,aP,aL,aE,aK,au,sl];omega) (wH h 3) x 24 16 fG (by omega) (by omega) (by omega) (by omega)).mono ?_
  rintro r X2 ⟨rfl,eC⟩
  have jz:=eC.lo
  simp only[aI,aH]at jz
  have nu:wH h 4=wH h 3+x*2^24:=by
   show wH h 3+(du h 3).toNat*2^pT 3=_
   rw[sO];rfl
  simp(disch:=omega)only[↓aa,ab,simprocAttr,sa,aV]
  refine hQ _ _ (5-4) (by omega) ?_
  refine⟨4,rfl,by omega,?_,?_,?_,?_,s.trans (sB.trans eC),hk⟩
  ·simp(disch:=omega)only[↓aa,ab,simprocAttr,sa,aV]
   try rfl
  ·rw[nu]
   simp(disch:=omega)only[↓aa,ab,simprocAttr,sa]
  ·simp(disch:=omega)only[↓aa,ab,simprocAttr,sa,h5]
  ·simp(disch:=omega)only[↓aa,ab,simprocAttr,sa,aY]
 ·have fG:=Br (h:=h) (i:=4) (by omega) cP
  replace aV:T.get 11=some (.int .i64 4):=aV
  have sB:=od X [Value.int .i64 0,Value.int .i64 0,Value.int .i64 0] [Value.int .i64 40,Value.int .i64 24,Value.int .i64 1048576]
  cases y1:decide (h.fq<0)
  case true=>
   simp(disch:=omega)only[↓aa,ab,simprocAttr,sa,aV,aY,gX]
   refine ic [(false,[],[]),(false,[],[]),(false,[],[]),(false,[],[]),(false,[],[]),(false,[],[]),(false,[],[]),(false,[],[]),(false,[],[]),(false,[],[]),(false,[],[]),(false,[],[])] kq ?_
   simp(disch:=omega)only[↓aa,ab,simprocAttr,sa,aV,aY,h5,gX,y1]
   refine aD _ _ _ ?_
   simp(disch:=omega)only[↓aa,ab,simprocAttr,sa]
   have cx:=bad (by omega) (by simp only[fZ,du,y1];rfl)
   rw[cx]
   exact⟨rfl,pU.trans (s.trans sB)⟩
  cases y2:decide (1048576<h.fq)
  case true=>
   simp(disch:=omega)only[↓aa,ab,simprocAttr,sa,aV,aY,gX]
   refine ic [(false,[],[]),(false,[],[]),(false,[],[]),(false,[],[]),(false,[],[]),(false,[],[]),(false,[],[]),(false,[],[]),(false,[],[]),(false,[],[]),(false,[],[]),(false,[],[])] kq ?_
   simp(disch:=omega)only[↓aa,ab,simprocAttr,sa,aV,aY,h5,gX,y1,y2]
   refine aD _ _ _ ?_
   simp(disch:=omega)only[↓aa,ab,simprocAttr,sa]
   have cx:=bad (by omega) (by simp only[fZ,du,jZ,y1,y2];rfl)
   rw[cx]
   exact⟨rfl,pU.trans (s.trans sB)⟩
  have hk:=more (by omega) (by simp only[fZ,du,jZ,y1,y2];rfl)
  have y3:0≤h.fq:=by rw[wal]at y1;omega
  have y4:h.fq≤1048576:=by rw[wal]at y2;omega
  obtain⟨x,hx⟩:∃ x:Nat,h.fq=x:=⟨(h.fq).toNat,by omega⟩
  have sO:(du h 4).toNat=x:=by simp only[du,hx,waD]
  have ng:IntKind.u64.wrap (h.fq)=(x:Int):=by rw[wrap_u64 (by omega) (by omega)];exact hx
  simp(disch:=omega)only[↓aa,ab,simprocAttr,sa,aV,aY,gX]
  refine ic [(false,[],[]),(false,[],[]),(false,[],[]),(false,[],[]),(false,[],[]),(false,[],[]),(false,[],[]),(false,[],[]),(false,[],[]),(false,[],[]),(false,[],[]),(false,[],[])] kq ?_
  simp(disch:=omega)only[↓aa,ab,simprocAttr,sa,aV,aY,h5,h4,gX,y1,y2]
  refine ic [(false,[],[]),(false,[],[]),(false,[],[]),(false,[],[]),(false,[],[]),(false,[],[]),(false,[],[]),(false,[],[]),(false,[],[]),(false,[],[]),(false,[],[]),(false,[],[]),(false,[],[]),(false,[],[])] kq ?_
  simp(disch:=omega)only[↓aa,ab,simprocAttr,sa,aV,aY,h5,h4,gX,ng]
  refine(Bs _ (by simp(disch:=omega)only[aA,aM,aB,aJ,aH,aI,aN,aO,aR,aP,aL,aE,aK,au,sl];omega) (wH h 4) x 40 24 fG (by omega) (by omega) (by omega) (by omega)).mono ?_
  rintro r X2 ⟨rfl,eC⟩
  have jz:=eC.lo
  simp only[aI,aH]at jz
  have nu:wH h 5=wH h 4+x*2^40:=by
   show wH h 4+(du h 4).toNat*2^pT 4=_
   rw[sO];rfl
  simp(disch:=omega)only[↓aa,ab,simprocAttr,sa,aV]
  refine hQ _ _ (5-5) (by omega) ?_
  refine⟨5,rfl,by omega,?_,?_,?_,?_,s.trans (sB.trans eC),hk⟩
  ·simp(disch:=omega)only[↓aa,ab,simprocAttr,sa,aV]
   try rfl
  ·rw[nu]
   simp(disch:=omega)only[↓aa,ab,simprocAttr,sa]
  ·simp(disch:=omega)only[↓aa,ab,simprocAttr,sa,h5]
  ·simp(disch:=omega)only[↓aa,ab,simprocAttr,sa,aY]
 ·replace aV:T.get 11=some (.int .i64 5):=aV
  simp(disch:=omega)only[↓aa,ab,simprocAttr,sa,aV]
  refine ai _ _ _ _ ?_
  simp(disch:=omega)only[↓aa,ab,simprocAttr,sa,h4]
  have cx:gy h=true:=by
   rw[gy,waC]
   intro j hj
   exact cP j (by simpa using hj)
  rw[cx]
  exact⟨rfl,pU.trans s⟩
theorem qZ(w a n:Nat):cq w a n<2^n:=Nat.mod_lt _ (wcu (by omega))
def cu(h:Hd):Int:=if gy h then 1+h.fields+h.bO else 0
theorem jO{h:Hd}(hk:gy h=true):0≤h.kind∧h.kind≤31∧0≤h.fields∧h.fields≤4096∧0≤h.bO∧h.bO≤4096∧0≤h.fq∧h.fq≤1048576:=by
 have hj:∀ j,j<5→fZ h j=true:=fun j hj=>waC.1 hk j (by simpa using hj)
 have h1:=nz (hj 1 (by omega))
 have h2:=nz (hj 2 (by omega))
 have h3:=nz (hj 3 (by omega))
 have h4:=nz (hj 4 (by omega))
 simp only[du,jZ]at h1 h2 h3 h4
 omega
theorem qO(H:Heap)(aj:H.lo≤H.next)(h:Hd):af E (aC 105) [bK h] H fun r H'=>r= .int .i64 (cu h)∧aq H H':=by
 refine aQ Tryz.f105 ?_
 simp only[Tryz.f105,bK]
 simp(disch:=omega)only[↓aa,ab,simprocAttr,sa]
 refine ym (fun H1 e1=>?_)
 have s1:aq H H1:=by rw[e1];exact fx _
 have n1:H1.next=H.next+1:=by rw[e1];simp(disch:=omega)only[aA,aM,aB,aJ,aH,aI,aN,aO,aR,aP,aL,aE,aK,au,sl]
 have l1:=s1.lo
 have b1:H1.objs.get H.next=some (.row [.int .i64 h.kind,.int .i64 h.fields,.int .i64 h.bO,.bool h.mark,.int .i64 h.fq] none true):=by rw[e1];simp(disch:=omega)only[aA,aM,aB,aJ,aH,aI,aN,aO,aR,aP,aL,aE,aK,au,sl]
 clear e1
 refine(PY H1 (by omega) h).mono ?_
 rintro r H2 ⟨hr,s2⟩
 have b2:=s2.keeps (by omega) b1
 cases hk:gy h
 case false=>
  rw[hk]at hr
  replace hr:r= .tuple #[.int .u64 0,.int .i64 1]:=hr
  subst hr
  simp(disch:=omega)only[↓aa,ab,simprocAttr,sa]
  exact⟨by simp only[cu,hk];rfl,s1.trans s2⟩
 rw[hk]at hr
 replace hr:r= .tuple #[.int .u64 (wH h 5:Nat),.int .i64 0]:=hr
 subst hr
 obtain⟨q1,q2,q3,q4,q5,q6,q7,q8⟩:=jO hk
 simp(disch:=omega)only[↓aa,ab,simprocAttr,sa,b2]
 exact⟨by simp only[cu,hk];rfl,s1.trans s2⟩
def eS(w:Nat):Hd:=⟨(cq w 3 5:Nat),(cq w 8 16:Nat),(cq w 24 16:Nat),decide (((cq w 2 1:Nat):Int)=1),(cq w 40 24:Nat)⟩
def js(w:Nat):Bool:=if gy (eS w)then decide (wH (eS w) 5=w)else false
def gJ:Hd:=⟨0,0,0,false,0⟩
theorem Hs(H:Heap)(aj:H.lo≤H.next)(w:Nat)(hw:w<2^64):af E (aC 104) [.int .u64 (w:Int)] H fun r H'=>r= .tuple #[bK (if js w then eS w else gJ),.int .i64 (if js w then 0 else 3)]∧aq H H':=by
 refine aQ Tryz.f104 ?_
 simp only[Tryz.f104]
 simp(disch:=omega)only[↓aa,ab,simprocAttr,sa]
 refine ym (fun H1 e1=>?_)
 have s1:aq H H1:=by rw[e1];exact(fx _).newRow _
 have n1:H1.next=H.next+1+1:=by rw[e1];simp(disch:=omega)only[aA,aM,aB,aJ,aH,aI,aN,aO,aR,aP,aL,aE,aK,au,sl]
 have l1:=s1.lo
 have bR:H1.objs.get H.next=some (.row [.int .i64 0,.int .i64 0,.int .i64 0,.bool false,.int .i64 0] none true):=by rw[e1];simp(disch:=omega)only[aA,aM,aB,aJ,aH,aI,aN,aO,aR,aP,aL,aE,aK,au,sl]
 have bN:H1.objs.get (H.next+1)=some (.row [Value.int .i64 0,Value.int .i64 0,Value.int .i64 0,Value.int .i64 0,Value.int .i64 0] none true):=by rw[e1];simp(disch:=omega)only[aA,aM,aB,aJ,aH,aI,aN,aO,aR,aP,aL,aE,aK,au,sl]
 clear e1
 refine(PX H1 (by omega)).mono ?_
 rintro r H2 ⟨rfl,s2⟩
 have n2:=s2.ag
 have l2:=s2.lo
 have bR:=s2.keeps (by omega) bR
 have bN:=s2.keeps (by omega) bN
 have s02:=s1.trans s2
 refine E9 kq (fun k T X=>∃ (i:Nat) (row:List Value),k=5-i∧i≤5∧T.get 13=some (.int .i64 i)∧T.get 0=some (.int .u64 (w:Int))∧T.get 4=some (ptr (H.next+1) 0)∧T.get 2=some (ptr H.next 0)∧T.get 12=some (.agg #[.int .i64 2,.int .i64 1,.int .i64 1,.int .i64 3,.int .i64 5,.int .i64 31,.int .i64 8,.int .i64 16,.int .i64 4096,.int .i64 24,.int .i64 16,.int .i64 4096,.int .i64 40,.int .i64 24,.int .i64 1048576])∧m0 (H.next+1) H2 X∧X.objs.get (H.next+1)=some (.row row none true)∧((i=0∧row=[Value.int .i64 0,Value.int .i64 0,Value.int .i64 0,Value.int .i64 0,Value.int .i64 0])∨(i=1∧row=[Value.int .i64 ((cq w 2 1:Nat):Int),Value.int .i64 0,Value.int .i64 0,Value.int .i64 0,Value.int .i64 0])∨(i=2∧row=[Value.int .i64 ((cq w 2 1:Nat):Int),Value.int .i64 ((cq w 3 5:Nat):Int),Value.int .i64 0,Value.int .i64 0,Value.int .i64 0])∨(i=3∧row=[Value.int .i64 ((cq w 2 1:Nat):Int),Value.int .i64 ((cq w 3 5:Nat):Int),Value.int .i64 ((cq w 8 16:Nat):Int),Value.int .i64 0,Value.int .i64 0])∨(i=4∧row=[Value.int .i64 ((cq w 2 1:Nat):Int),Value.int .i64 ((cq w 3 5:Nat):Int),Value.int .i64 ((cq w 8 16:Nat):Int),Value.int .i64 ((cq w 24 16:Nat):Int),Value.int .i64 0])∨(i=5∧row=[Value.int .i64 ((cq w 2 1:Nat):Int),Value.int .i64 ((cq w 3 5:Nat):Int),Value.int .i64 ((cq w 8 16:Nat):Int),Value.int .i64 ((cq w 24 16:Nat):Int),Value.int .i64 ((cq w 40 24:Nat):Int)]))) 5 ?_ ?_
 ·exact⟨0,_,by omega,by omega,rfl,rfl,rfl,rfl,rfl,(aq.refl _).Hl _,bN,.inl ⟨rfl,rfl⟩⟩
 rintro k T X ⟨i,row,rfl,hi,bP,h0,h4,h2,bB,s,hX,aG⟩ Qs hQ aD ai
 have nX:=s.ag
 have lX:=s.lo
 have bRX:=s.keeps (by omega) (by omega) bR
 have s0X:=s.same s02 (by omega)
 rcases aG with⟨rfl,rfl⟩|⟨rfl,rfl⟩|⟨rfl,rfl⟩|⟨rfl,rfl⟩|⟨rfl,rfl⟩|⟨rfl,rfl⟩
 ·replace bP:T.get 13=some (.int .i64 0):=bP
  have sB:=od X [Value.int .i64 0,Value.int .i64 0,Value.int .i64 0] [Value.int .i64 2,Value.int .i64 1,Value.int .i64 1]
  have hlt:=qZ w 2 1
  simp(disch:=omega)only[↓aa,ab,simprocAttr,sa,bP,bB,h0]
  refine(Bn _ (by simp(disch:=omega)only[aA,aM,aB,aJ,aH,aI,aN,aO,aR,aP,aL,aE,aK,au,sl];omega) w hw 2 1).mono ?_
  rintro r X2 ⟨hr,eC⟩
  have jz:=eC.lo
  simp only[aI,aH]at jz
  have sP:X2.objs.get (H.next+1)=_:=eC.keeps (by simp(disch:=omega)only[aA,aM,aB,aJ,aH,aI,aN,aO,aR,aP,aL,aE,aK,au,sl];omega) (sB.keeps (by omega) hX)
  replace hr:r= .tuple #[.int .u64 ((cq w 2 1:Nat):Int),.bool true]:=hr
  subst hr
  simp(disch:=omega)only[↓aa,ab,simprocAttr,sa,bP,h4,sP]
  refine hQ _ _ (5-1) (by omega) ?_
  refine⟨1,_,rfl,by omega,?_,?_,?_,?_,?_,(s.trans (sB.trans eC)).setRow _,by simp(disch:=omega)only[aA,aM,aB,aJ,aH,aI,aN,aO,aR,aP,aL,aE,aK,au,sl],.inr (.inl ⟨rfl,rfl⟩)⟩
  ·simp(disch:=omega)only[↓aa,ab,simprocAttr,sa,bP]
   try rfl
  ·simp(disch:=omega)only[↓aa,ab,simprocAttr,sa,h0]
  ·simp(disch:=omega)only[↓aa,ab,simprocAttr,sa,h4]
  ·simp(disch:=omega)only[↓aa,ab,simprocAttr,sa,h2]
  ·simp(disch:=omega)only[↓aa,ab,simprocAttr,sa,bB]
 ·replace bP:T.get 13=some (.int .i64 1):=bP
  have sB:=od X [Value.int .i64 0,Value.int .i64 0,Value.int .i64 0] [Value.int .i64 3,Value.int .i64 5,Value.int .i64 31]
  have hlt:=qZ w 3 5
  simp(disch:=omega)only[↓aa,ab,simprocAttr,sa,bP,bB,h0]
  refine(Bn _ (by simp(disch:=omega)only[aA,aM,aB,aJ,aH,aI,aN,aO,aR,aP,aL,aE,aK,au,sl];omega) w hw 3 5).mono ?_
  rintro r X2 ⟨hr,eC⟩
  have jz:=eC.lo
  simp only[aI,aH]at jz
  have sP:X2.objs.get (H.next+1)=_:=eC.keeps (by simp(disch:=omega)only[aA,aM,aB,aJ,aH,aI,aN,aO,aR,aP,aL,aE,aK,au,sl];omega) (sB.keeps (by omega) hX)
  replace hr:r= .tuple #[.int .u64 ((cq w 3 5:Nat):Int),.bool true]:=hr
  subst hr
  simp(disch:=omega)only[↓aa,ab,simprocAttr,sa,bP,h4,sP]
  refine hQ _ _ (5-2) (by omega) ?_
  refine⟨2,_,rfl,by omega,?_,?_,?_,?_,?_,(s.trans (sB.trans eC)).setRow _,by simp(disch:=omega)only[aA,aM,aB,aJ,aH,aI,aN,aO,aR,aP,aL,aE,aK,au,sl],.inr (.inr (.inl ⟨rfl,rfl⟩))⟩
  ·simp(disch:=omega)only[↓aa,ab,simprocAttr,sa,bP]
   try rfl
  ·simp(disch:=omega)only[↓aa,ab,simprocAttr,sa,h0]
  ·simp(disch:=omega)only[↓aa,ab,simprocAttr,sa,h4]
  ·simp(disch:=omega)only[↓aa,ab,simprocAttr,sa,h2]
  ·simp(disch:=omega)only[↓aa,ab,simprocAttr,sa,bB]
 ·replace bP:T.get 13=some (.int .i64 2):=bP
  have sB:=od X [Value.int .i64 0,Value.int .i64 0,Value.int .i64 0] [Value.int .i64 8,Value.int .i64 16,Value.int .i64 4096]
  have hlt:=qZ w 8 16
  simp(disch:=omega)only[↓aa,ab,simprocAttr,sa,bP,bB,h0]
  refine(Bn _ (by simp(disch:=omega)only[aA,aM,aB,aJ,aH,aI,aN,aO,aR,aP,aL,aE,aK,au,sl];omega) w hw 8 16).mono ?_
  rintro r X2 ⟨hr,eC⟩
  have jz:=eC.lo
  simp only[aI,aH]at jz
  have sP:X2.objs.get (H.next+1)=_:=eC.keeps (by simp(disch:=omega)only[aA,aM,aB,aJ,aH,aI,aN,aO,aR,aP,aL,aE,aK,au,sl];omega) (sB.keeps (by omega) hX)
  replace hr:r= .tuple #[.int .u64 ((cq w 8 16:Nat):Int),.bool true]:=hr
  subst hr
  simp(disch:=omega)only[↓aa,ab,simprocAttr,sa,bP,h4,sP]
  refine hQ _ _ (5-3) (by omega) ?_
  refine⟨3,_,rfl,by omega,?_,?_,?_,?_,?_,(s.trans (sB.trans eC)).setRow _,by simp(disch:=omega)only[aA,aM,aB,aJ,aH,aI,aN,aO,aR,aP,aL,aE,aK,au,sl],.inr (.inr (.inr (.inl ⟨rfl,rfl⟩)))⟩
  ·simp(disch:=omega)only[↓aa,ab,simprocAttr,sa,bP]
   try rfl
  ·simp(disch:=omega)only[↓aa,ab,simprocAttr,sa,h0]
  ·simp(disch:=omega)only[↓aa,ab,simprocAttr,sa,h4]
  ·simp(disch:=omega)only[↓aa,ab,simprocAttr,sa,h2]
  ·simp(disch:=omega)only[↓aa,ab,simprocAttr,sa,bB]
 ·replace bP:T.get 13=some (.int .i64 3):=bP
  have sB:=od X [Value.int .i64 0,Value.int .i64 0,Value.int .i64 0] [Value.int .i64 24,Value.int .i64 16,Value.int .i64 4096]
  have hlt:=qZ w 24 16
  simp(disch:=omega)only[↓aa,ab,simprocAttr,sa,bP,bB,h0]
  refine(Bn _ (by simp(disch:=omega)only[aA,aM,aB,aJ,aH,aI,aN,aO,aR,aP,aL,aE,aK,au,sl];omega) w hw 24 16).mono ?_
  rintro r X2 ⟨hr,eC⟩
  have jz:=eC.lo
  simp only[aI,aH]at jz
  have sP:X2.objs.get (H.next+1)=_:=eC.keeps (by simp(disch:=omega)only[aA,aM,aB,aJ,aH,aI,aN,aO,aR,aP,aL,aE,aK,au,sl];omega) (sB.keeps (by omega) hX)
  replace hr:r= .tuple #[.int .u64 ((cq w 24 16:Nat):Int),.bool true]:=hr
  subst hr
  simp(disch:=omega)only[↓aa,ab,simprocAttr,sa,bP,h4,sP]
  refine hQ _ _ (5-4) (by omega) ?_
  refine⟨4,_,rfl,by omega,?_,?_,?_,?_,?_,(s.trans (sB.trans eC)).setRow _,by simp(disch:=omega)only[aA,aM,aB,aJ,aH,aI,aN,aO,aR,aP,aL,aE,aK,au,sl],.inr (.inr (.inr (.inr (.inl ⟨rfl,rfl⟩))))⟩
  ·simp(disch:=omega)only[↓aa,ab,simprocAttr,sa,bP]
   try rfl
  ·simp(disch:=omega)only[↓aa,ab,simprocAttr,sa,h0]
  ·simp(disch:=omega)only[↓aa,ab,simprocAttr,sa,h4]
  ·simp(disch:=omega)only[↓aa,ab,simprocAttr,sa,h2]
  ·simp(disch:=omega)only[↓aa,ab,simprocAttr,sa,bB]
 ·replace bP:T.get 13=some (.int .i64 4):=bP
  have sB:=od X [Value.int .i64 0,Value.int .i64 0,Value.int .i64 0] [Value.int .i64 40,Value.int .i64 24,Value.int .i64 1048576]
  have hlt:=qZ w 40 24
  simp(disch:=omega)only[↓aa,ab,simprocAttr,sa,bP,bB,h0]
  refine(Bn _ (by simp(disch:=omega)only[aA,aM,aB,aJ,aH,aI,aN,aO,aR,aP,aL,aE,aK,au,sl];omega) w hw 40 24).mono ?_
  rintro r X2 ⟨hr,eC⟩
  have jz:=eC.lo
  simp only[aI,aH]at jz
  have sP:X2.objs.get (H.next+1)=_:=eC.keeps (by simp(disch:=omega)only[aA,aM,aB,aJ,aH,aI,aN,aO,aR,aP,aL,aE,aK,au,sl];omega) (sB.keeps (by omega) hX)
  replace hr:r= .tuple #[.int .u64 ((cq w 40 24:Nat):Int),.bool true]:=hr
  subst hr
  simp(disch:=omega)only[↓aa,ab,simprocAttr,sa,bP,h4,sP]
  refine hQ _ _ (5-5) (by omega) ?_
  refine⟨5,_,rfl,by omega,?_,?_,?_,?_,?_,(s.trans (sB.trans eC)).setRow _,by simp(disch:=omega)only[aA,aM,aB,aJ,aH,aI,aN,aO,aR,aP,aL,aE,aK,au,sl],.inr (.inr (.inr (.inr (.inr (⟨rfl,rfl⟩)))))⟩
  ·simp(disch:=omega)only[↓aa,ab,simprocAttr,sa,bP]
   try rfl
  ·simp(disch:=omega)only[↓aa,ab,simprocAttr,sa,h0]
  ·simp(disch:=omega)only[↓aa,ab,simprocAttr,sa,h4]
  ·simp(disch:=omega)only[↓aa,ab,simprocAttr,sa,h2]
  ·simp(disch:=omega)only[↓aa,ab,simprocAttr,sa,bB]
 ·replace bP:T.get 13=some (.int .i64 5):=bP
  simp(disch:=omega)only[↓aa,ab,simprocAttr,sa,bP]
  refine ai _ _ _ _ ?_
  simp(disch:=omega)only[↓aa,ab,simprocAttr,sa,h4,hX]
  refine ym (fun H5 e5=>?_)
  have s5:aq X H5:=by rw[e5];exact od _ _ _
  have n5:H5.next=X.next+1:=by rw[e5];simp(disch:=omega)only[aA,aM,aB,aJ,aH,aI,aN,aO,aR,aP,aL,aE,aK,au,sl]
  have l5:=s5.lo
  have b5:H5.objs.get X.next=some (.row (PW (eS w)) none true):=by rw[e5,aA,cB rfl];rfl
  clear e5
  refine(PY H5 (by omega) (eS w)).mono ?_
  rintro r H6 ⟨hr,s6⟩
  have n6:=s6.ag
  have l6:=s6.lo
  have b6:=s6.keeps (by omega) b5
  have IT:=s6.keeps (by omega) (s5.keeps (by omega) bRX)
  have IU:=s0X.trans (s5.trans s6)
  simp only[PW]at b6
  cases hk:gy (eS w)
  case false=>
   rw[hk]at hr
   replace hr:r= .tuple #[.int .u64 0,.int .i64 1]:=hr
   subst hr
   have hi:js w=false:=by simp only[js,hk];rfl
   simp(disch:=omega)only[↓aa,ab,simprocAttr,sa,h0,h2,IT,b6]
   rw[hi]
   exact⟨rfl,IU.setRow (by omega) _⟩
  rw[hk]at hr
  replace hr:r= .tuple #[.int .u64 (wH (eS w) 5:Nat),.int .i64 0]:=hr
  subst hr
  cases he:decide (((wH (eS w) 5:Nat):Int)=(w:Int))
  case false=>
   have hi:js w=false:=by
    simp only[js,hk]
    rw[wal]at he
    rw[wF trivial,wal]
    omega
   simp(disch:=omega)only[↓aa,ab,simprocAttr,sa,h0,h2,IT,b6,he]
   rw[hi]
   exact⟨rfl,IU.setRow (by omega) _⟩
  have hi:js w=true:=by
   simp only[js,hk]
   rw[waL]at he
   rw[wF trivial,waL]
   omega
  simp(disch:=omega)only[↓aa,ab,simprocAttr,sa,h0,h2,IT,b6,he]
  rw[hi]
  exact⟨rfl,IU.setRow (by omega) _⟩
structure bM where
 kind:Int
 x:Int
 deriving DecidableEq
def cX(v:bM):Value:= .agg #[.int .i64 v.kind,.int .i64 v.x]
def bM.Ok(v:bM):Prop:=v.kind=0∧v.x=0∨v.kind=1∧ -2305843009213693952≤v.x∧v.x≤2305843009213693951∨v.kind=2∧0≤v.x∧v.x≤1099511627776
instance(v:bM):Decidable v.Ok:=by unfold bM.Ok;infer_instance
def bM.word(v:bM):Nat:=(4*v.x%18446744073709551616+v.kind).toNat
theorem ZZ(x:Int):shiftOp .shl .u64 (IntKind.u64.wrap x) 2=some (.int .u64 (4*x%18446744073709551616)):=by
 rw[shift_shl _ _ _ (by decide)]
 have h:∀ y:Int,IntKind.u64.wrap y=y%18446744073709551616:=fun y=>rfl
 simp only[h]
 have:(2:Int)^(min (2:Int).toNat IntKind.u64.bits)=4:=by decide
 rw[this]
 congr 2
 omega
theorem Ot{y:Int}(k:Nat)(h0:0≤y)(h1:y<18446744073709551616)(h4:y%4=0)(hk:k<4):intOp .or .u64 y (k:Int)=some (.int .u64 (y+k)):=by
 obtain⟨n,rfl⟩:=wbz h0
 rw[Ou (by omega) (by omega)]
 congr 2
 have:n=4*(n/4):=by omega
 rw[this,show 4*(n/4)=2^2*(n/4) by omega,←Nat.two_pow_add_eq_or_of_lt (by omega)]
 push_cast
 rfl
theorem Z0(x:Int):intOp .or .u64 (4*x%18446744073709551616) 1=some (.int .u64 (4*x%18446744073709551616+1)):=Ot 1 (by omega) (by omega) (by omega) (by omega)
theorem Z5(x:Int):intOp .or .u64 (4*x%18446744073709551616) 2=some (.int .u64 (4*x%18446744073709551616+2)):=Ot 2 (by omega) (by omega) (by omega) (by omega)
theorem and_3{w:Nat}(h:w<18446744073709551616):intOp .and .u64 (w:Int) 3=some (.int .u64 (w%4:Int)):=by
 have e:intOp .and .u64 (w:Int) ((3:Nat):Int)=_:=Hp (by omega) (by omega)
 rw[show(w&&&3:Nat)=w%4 from wcr w 2]at e
 exact e
theorem Z6{w:Nat}(h:w<18446744073709551616):shiftOp .shr .u64 (w:Int) 2=some (.int .u64 (w/4:Int)):=by
 have e:shiftOp .shr .u64 (w:Int) ((2:Nat):Int)=_:=Hq (a:=w) (n:=2) (by omega) (by omega)
 exact e
theorem Z8(a:Int):shiftOp .shr .i64 a 2=some (.int .i64 (a/4)):=by
 rw[shift_shr _ _ _ (by decide)]
 have:(2:Int)^(min (2:Int).toNat IntKind.i64.bits)=4:=by decide
 rw[this,wcw _ (by decide)]
theorem Z9(H:Heap)(aj:H.lo≤H.next)(v:bM):af E (aC 290) [cX v] H fun r H'=>r= .tuple #[.int .u64 ((if v.Ok then v.word else 0:Nat):Int),.int .i64 (if v.Ok then 0 else 1)]∧aq H H':=by
 refine aQ Tryz.f290 ?_
 simp only[Tryz.f290]
 simp only[cX]
 repeat'(first|(apply ao<;>intro)|simp(disch:=omega)only[↓aa,ab,simprocAttr,sa,ZZ,Z0,Z5, *])
 all_goals refine⟨?_,by exact aF⟩
 all_goals first
  |(have hk:v.Ok:=by unfold bM.Ok;omega
    have e:((v.word:Nat):Int)=4*v.x%18446744073709551616+v.kind:=by unfold bM.word;omega
    rw[wF hk,wF hk,e]
    simp[*];done)
  |(have hk:¬v.Ok:=by unfold bM.Ok;omega
    simp only[wI hk]
    rfl)
def bM.none:bM:=⟨0,0⟩
def dS(w:Nat):Option bM:=if w%4=1 then some ⟨1,IntKind.i64.wrap w/4⟩else if w%4=2∧w/4≤1099511627776 then some ⟨2,w/4⟩else if w=0 then some .none else none
theorem yx(H:Heap)(aj:H.lo≤H.next)(w:Nat)(hw:w<2^64):af E (aC 62) [.int .u64 w] H fun r H'=>r= .tuple #[cX ((dS w).getD .none),.int .i64 (if(dS w).isSome then 0 else 3)]∧aq H H':=by
 have qy:w<18446744073709551616:=by omega
 refine aQ Tryz.f62 ?_
 simp only[Tryz.f62]
 repeat'(first|(apply ao<;>intro)|simp(disch:=omega)only[↓aa,ab,simprocAttr,sa,and_3 qy,Z6 qy,Z8, *])
 all_goals refine⟨?_,by exact aF⟩
 all_goals first
  |(have e:dS w=some ⟨1,IntKind.i64.wrap w/4⟩:=by unfold dS;rw[wF (by omega)]
    simp[e,cX];done)
  |(have e:dS w=some ⟨2,w/4⟩:=by unfold dS;rw[wI (by omega),wF (by omega)]
    simp[e,cX,wrap_i64, *];done)
  |(have e:dS w=some .none:=by unfold dS;rw[wI (by omega),wI (by omega),wF (by omega)]
    simp[e,cX,bM.none];done)
  |(have e:dS w=none:=by unfold dS;rw[wI (by omega),wI (by omega),wI (by omega)]
    simp[e,cX,bM.none];done)
def wV(n:Nat):Value:= .int .u64 n
structure Ar(H:Heap)(a rw g:Nat)(ws:List Nat):Prop where
 box:H.objs.get a=some (.row [.bool true,.slice (some ⟨rw,0,none⟩) ws.length ws.length] none true)
 row:H.objs.get rw=some (.row (ws.map wV) (some (g,1)) true)
 bH:H.grps.get g=some []
 la:a<H.next
 lw:rw<H.next
 lg:g<H.next
 ne:a≠rw
 u64:∀ w∈ws,w<2^64
 len:ws.length≤98304
theorem Ar.same{H H':Heap}{a rw g:Nat}{ws:List Nat}(h:Ar H a rw g ws)(s:Ko H H'):Ar H' a rw g ws:=
 ⟨s.keeps h.la h.box,s.keeps h.lw h.row,by rw[s.grps g h.lg,h.bH],wq h.la s.ag,wq h.lw s.ag,wq h.lg s.ag,h.ne,h.u64,h.len⟩
theorem Ov(H:Heap)(aj:H.lo≤H.next){a rw g:Nat}{ws:List Nat}(h:Ar H a rw g ws):af E (aC 230) [ptr a 0] H fun r H'=>r= .bool false∧aq H H':=by
 have hb:=h.box
 refine aQ Tryz.f230 ?_
 simp only[Tryz.f230]
 simp(disch:=omega)only[↓aa,ab,simprocAttr,sa,Ow, *]
 all_goals exact xW
theorem Ar.at{ws:List Nat}{i:Int}(h0:0≤i)(h:i<ws.length):(ws.map wV)[i.toNat]? =some (.int .u64 (ws.getD i.toNat 0:Nat)):=by
 rw[war,wj (by omega),wav,wj (by omega)];rfl
def lD(n:Nat)(i:Int):Int:=if 0≤i∧i<n then 0 else 2
theorem Ox(H:Heap)(aj:H.lo≤H.next){a rw g:Nat}{ws:List Nat}(h:Ar H a rw g ws)(i:Int):af E (aC 252) [ptr a 0,.int .i64 i] H fun r H'=>r= .int .i64 (lD ws.length i)∧aq H H':=by
 have hb:=h.box
 have la:=h.la
 have lw:=h.lw
 have hl:=h.len
 refine aQ Tryz.f252 ?_
 simp only[Tryz.f252]
 repeat'(first|(apply ao<;>intro)|apply bQ|((with_reducible show af _ _ _ _ _);refine ak H (Ov _ ah (by first|exact h|exact h.same (by assumption))) ?_;intro H2 k2 l2 n2 g2 q2;try simp(disch:=omega)only[sm,sl]at l2 n2 g2 q2)|simp(disch:=omega)only[↓aa,ab,simprocAttr,sa, *])
 all_goals(first|(with_reducible exact aF)|((with_reducible show _∧_);exact⟨by first|rfl|(simp[lD, *]<;>omega),aF⟩))
theorem zaa(H:Heap)(aj:H.lo≤H.next){a rw g:Nat}{ws:List Nat}(h:Ar H a rw g ws):af E (aC 216) [ptr a 0] H fun r H'=>r= .int .i64 ws.length∧aq H H':=by
 have hb:=h.box
 have la:=h.la
 refine aQ Tryz.f216 ?_
 simp only[Tryz.f216]
 repeat'(first|((with_reducible show af _ _ _ _ _);refine ak H (Ov _ ah (by first|exact h|exact h.same (by assumption))) ?_;intro H2 k2 l2 n2 g2 q2;try simp(disch:=omega)only[sm,sl]at l2 n2 g2 q2)|simp(disch:=omega)only[↓aa,ab,simprocAttr,sa, *])
 all_goals exact xW
theorem DU(H:Heap)(aj:H.lo≤H.next){a rw g:Nat}{ws:List Nat}(h:Ar H a rw g ws)(i:Int):af E (aC 215) [ptr a 0,.int .i64 i] H fun r H'=>r= .tuple #[.int .u64 (if lD ws.length i=0 then ws.getD i.toNat 0 else 0:Nat),.int .i64 (lD ws.length i)]∧aq H H':=by
 have hb:=h.box
 have hr:=h.row
 have la:=h.la
 have lw:=h.lw
 refine aQ Tryz.f215 ?_
 simp only[Tryz.f215]
 by_cases hp:0≤i∧i<ws.length
 ·have hP:lD ws.length i=0:=wF hp
  have hc:=Ar.at hp.1 hp.2
  repeat'(first|((with_reducible show af _ _ _ _ _);refine ak H (Ox _ ah (by first|exact h|exact h.same (by assumption)) i) ?_;intro H2 k2 l2 n2 g2 q2;try simp(disch:=omega)only[sm,sl]at l2 n2 g2 q2)|simp(disch:=omega)only[↓aa,ab,simprocAttr,sa, *])
  all_goals exact xW
 ·have hP:lD ws.length i=2:=wI hp
  repeat'(first|((with_reducible show af _ _ _ _ _);refine ak H (Ox _ ah (by first|exact h|exact h.same (by assumption)) i) ?_;intro H2 k2 l2 n2 g2 q2;try simp(disch:=omega)only[sm,sl]at l2 n2 g2 q2)|simp(disch:=omega)only[↓aa,ab,simprocAttr,sa, *])
  all_goals exact xW
structure Bp(H:Heap)(b:Nat)(x:Span)(u:Int):Prop where
 box:H.objs.get b=some (.row [.bool true,.int .i64 x.ae,.int .i64 x.size,.int .i64 u] none true)
 lb:b<H.next
 My:bw x
 u0:0≤u
 u1:u≤x.size
def cY(ws:List Nat)(i:Int):Nat:=ws.getD i.toNat 0
def cF(ws:List Nat)(i:Int):Int:=if lD ws.length i=0 then(if js (cY ws i)then(if ws.length-i<cu (eS (cY ws i))then 2 else 0)else 3)else 2
def aT(ws:List Nat)(i:Int):Hd:=if cF ws i=0 then eS (cY ws i)else gJ
theorem Ar.lt{H:Heap}{a rw g:Nat}{ws:List Nat}(h:Ar H a rw g ws)(i:Int):cY ws i<2^64:=by
 unfold cY
 rw[wav]
 cases hc:ws[i.toNat]? with
 |none=>simp
 |some w=>exact h.u64 w (wag hc)
theorem yy{h:Hd}:0≤cu h∧cu h≤8193:=by
 unfold cu
 split
 ·rename_i hk
  have:=jO hk
  omega
 ·omega
theorem oN(H:Heap)(aj:H.lo≤H.next){a rw g:Nat}{ws:List Nat}(h:Ar H a rw g ws)(i:Int)(hi: -9223372036854775808≤i∧i≤9223372036854775807):af E (aC 168) [ptr a 0,.int .i64 i] H fun r H'=>r= .tuple #[bK (aT ws i),.int .i64 (cF ws i)]∧aq H H':=by
 have hw:=h.lt i
 have hl:=h.len
 have hs:=yy (h:=eS (cY ws i))
 refine aQ Tryz.f168 ?_
 simp only[Tryz.f168]
 by_cases hp:lD ws.length i=0
 ·have hq:0≤i∧i<ws.length:=by unfold lD at hp;split at hp<;>omega
  have hg:ws.getD i.toNat 0=cY ws i:=rfl
  cases hd:js (cY ws i)with
  |false=>
   have e:cF ws i=3:=by unfold cF;rw[wF hp,wI (by rw[hd];simp)]
   have e2:aT ws i=gJ:=by unfold aT;rw[wI (by omega)]
   repeat'(first|((with_reducible show af _ _ _ _ _);(first|refine ak H (DU _ ah (by first|exact h|exact h.same aw) i) ?_|refine ak H (Hs _ ah (cY ws i) hw) ?_);intro H2 k2 l2 n2 g2 q2;try simp(disch:=omega)only[sm,sl]at l2 n2 g2 q2)|simp(disch:=omega)only[↓aa,ab,simprocAttr,sa,bK,gJ, *])
   exact aF
  |true=>
   repeat'(first|(apply ao<;>intro)|((with_reducible show af _ _ _ _ _);(first|refine ak H (DU _ ah (by first|exact h|exact h.same aw) i) ?_|refine ak H (Hs _ ah (cY ws i) hw) ?_|refine ak H (qO _ ah (eS (cY ws i))) ?_|refine ak H (zaa _ ah (by first|exact h|exact h.same aw)) ?_);intro H2 k2 l2 n2 g2 q2;try simp(disch:=omega)only[sm,sl]at l2 n2 g2 q2)|simp(disch:=omega)only[↓aa,ab,simprocAttr,sa,bK, *])
   all_goals(with_reducible show _∧_)
   all_goals first
    |(have e:cF ws i=2:=by unfold cF;rw[wF hp,wF hd,wF (by omega)]
      have e2:aT ws i=gJ:=by unfold aT;rw[wI (by omega)]
      exact⟨by rw[e,e2];rfl,by exact aF⟩)
    |(have e:cF ws i=0:=by unfold cF;rw[wF hp,wF hd,wI (by omega)]
      have e2:aT ws i=eS (cY ws i):=by unfold aT;rw[wF e]
      exact⟨by rw[e,e2],by exact aF⟩)
 ·have oI:lD ws.length i=2:=by unfold lD at hp ⊢;split at hp<;>simp_all
  have e:cF ws i=2:=by unfold cF;rw[wI hp]
  have e2:aT ws i=gJ:=by unfold aT;rw[wI (by omega)]
  repeat'(first|((with_reducible show af _ _ _ _ _);refine ak H (DU _ ah (by first|exact h|exact h.same aw) i) ?_;intro H2 k2 l2 n2 g2 q2;try simp(disch:=omega)only[sm,sl]at l2 n2 g2 q2)|simp(disch:=omega)only[↓aa,ab,simprocAttr,sa,bK,gJ, *])
  exact aF
theorem Oy{ws:List Nat}{i:Int}(h:cF ws i=0):lD ws.length i=0:=by
 unfold cF at h
 split at h
 ·assumption
 ·omega
def iO(ws:List Nat)(i k:Int)(eu:Bool):Int:=if cF ws i=0 then(if 0≤k∧k<(if eu then(aT ws i).bO else(aT ws i).fields)then 0 else 1)else cF ws i
def kD(ws:List Nat)(i k:Int)(eu:Bool):Int:=if iO ws i k eu=0 then i+1+(if eu then(aT ws i).fields else 0)+k else 0
theorem kE{ws:List Nat}{i:Int}(h:cF ws i=0):0≤i∧i<ws.length∧gy (aT ws i)=true∧i+cu (aT ws i)≤ws.length∧aT ws i=eS (cY ws i):=by
 have hp:=Oy h
 have hq:0≤i∧i<ws.length:=by unfold lD at hp;split at hp<;>omega
 have e2:aT ws i=eS (cY ws i):=by unfold aT;rw[wF h]
 unfold cF at h
 rw[wF hp]at h
 split at h
 ·rename_i hd
  split at h
  ·omega
  ·refine⟨hq.1,hq.2,?_,by rw[e2];omega,e2⟩
   rw[e2]
   unfold js at hd
   split at hd
   ·assumption
   ·cases hd
 ·omega
theorem Oz(H:Heap)(aj:H.lo≤H.next){a rw g:Nat}{ws:List Nat}(h:Ar H a rw g ws)(i:Int)(hi: -9223372036854775808≤i∧i≤9223372036854775807)(k:Int)(eu:Bool):af E (aC 310) [ptr a 0,.int .i64 i,.int .i64 k,.bool eu] H fun r H'=>r= .tuple #[.int .i64 (kD ws i k eu),.int .i64 (iO ws i k eu)]∧aq H H':=by
 have hl:=h.len
 refine aQ Tryz.f310 ?_
 simp only[Tryz.f310]
 by_cases hp:cF ws i=0
 ·obtain⟨h1,h2,h3,h4,h5⟩:=kE hp
  have h6:=jO h3
  rw[h5]at h6
  cases eu
  all_goals(repeat'(first|refine ao (fun _=>?_) (fun _=>?_)|apply bQ|refine az 4 [Fx,Fx,Fx,Fx,Fx,Fx] ?_|refine az 6 [Fx,Fx,Fx,Fx,Fx,Fx,Fx,Fx] ?_|((with_reducible show af _ _ _ _ _);refine ak H (oN _ ah (by first|exact h|exact h.same aw) i hi) ?_;intro H2 k2 l2 n2 g2 q2;try simp(disch:=omega)only[sm,sl]at l2 n2 g2 q2)|simp(disch:=omega)only[↓aa,ab,simprocAttr,sa,bK, *]))
  all_goals(with_reducible show _∧_)
  all_goals refine⟨?_,by exact aF⟩
  all_goals first
   |(have e:iO ws i k false=1:=by unfold iO;rw[wF hp,wI (by simp[h5];omega)]
     rw[kD,e];rfl)
   |(have e:iO ws i k false=0:=by unfold iO;rw[wF hp,wF (by simp[h5];omega)]
     rw[kD,e];simp)
   |(have e:iO ws i k true=1:=by unfold iO;rw[wF hp,wI (by simp[h5];omega)]
     rw[kD,e];rfl)
   |(have e:iO ws i k true=0:=by unfold iO;rw[wF hp,wF (by simp[h5];omega)]
     rw[kD,e];simp[h5])
 ·have e:iO ws i k eu=cF ws i:=wI hp
  have e2:kD ws i k eu=0:=wI (by omega)
  repeat'(first|((with_reducible show af _ _ _ _ _);refine ak H (oN _ ah (by first|exact h|exact h.same aw) i hi) ?_;intro H2 k2 l2 n2 g2 q2;try simp(disch:=omega)only[sm,sl]at l2 n2 g2 q2)|simp(disch:=omega)only[↓aa,ab,simprocAttr,sa,bK, *])
  exact aF
def jt(ws:List Nat)(i k:Int)(eu:Bool):Nat:=if iO ws i k eu=0 then cY ws (kD ws i k eu)else 0
theorem zab{ws:List Nat}{i k:Int}{eu:Bool}(h:iO ws i k eu=0):0≤kD ws i k eu∧kD ws i k eu<ws.length∧cF ws i=0∧i<kD ws i k eu∧kD ws i k eu<i+cu (aT ws i):=by
 have h0:=h
 unfold iO at h
 split at h
 ·rename_i hp
  obtain⟨h1,h2,h3,h4,_⟩:=kE hp
  have h6:=jO h3
  have hs:cu (aT ws i)=1+(aT ws i).fields+(aT ws i).bO:=by unfold cu;rw[wF h3]
  unfold kD
  rw[wF h0]
  cases eu<;>simp at h⊢ <;>omega
 ·omega
theorem zac(H:Heap)(aj:H.lo≤H.next){a rw g:Nat}{ws:List Nat}(h:Ar H a rw g ws)(i:Int)(hi: -9223372036854775808≤i∧i≤9223372036854775807)(k:Int)(eu:Bool):af E (aC 288) [ptr a 0,.int .i64 i,.int .i64 k,.bool eu] H fun r H'=>r= .tuple #[.int .u64 (jt ws i k eu),.int .i64 (iO ws i k eu)]∧aq H H':=by
 refine aQ Tryz.f288 ?_
 simp only[Tryz.f288]
 by_cases hp:iO ws i k eu=0
 ·obtain⟨h1,h2,_⟩:=zab hp
  have e:lD ws.length (kD ws i k eu)=0:=wF ⟨h1,h2⟩
  have e2:jt ws i k eu=ws.getD (kD ws i k eu).toNat 0:=by unfold jt;rw[wF hp];rfl
  repeat'(first|((with_reducible show af _ _ _ _ _);(first|refine ak H (Oz _ ah (by first|exact h|exact h.same aw) i hi k eu) ?_|refine ak H (DU _ ah (by first|exact h|exact h.same aw) (kD ws i k eu)) ?_);intro H2 k2 l2 n2 g2 q2;try simp(disch:=omega)only[sm,sl]at l2 n2 g2 q2)|simp(disch:=omega)only[↓aa,ab,simprocAttr,sa, *])
  exact aF
 ·have e2:jt ws i k eu=0:=wI hp
  repeat'(first|((with_reducible show af _ _ _ _ _);refine ak H (Oz _ ah (by first|exact h|exact h.same aw) i hi k eu) ?_;intro H2 k2 l2 n2 g2 q2;try simp(disch:=omega)only[sm,sl]at l2 n2 g2 q2)|simp(disch:=omega)only[↓aa,ab,simprocAttr,sa,wcg, *])
  exact aF
theorem OA(H:Heap)(aj:H.lo≤H.next){a rw g:Nat}{ws:List Nat}(h:Ar H a rw g ws)(i:Int)(hi: -9223372036854775808≤i∧i≤9223372036854775807)(k:Int):af E (aC 243) [ptr a 0,.int .i64 i,.int .i64 k] H fun r H'=>r= .tuple #[.int .u64 (jt ws i k false),.int .i64 (iO ws i k false)]∧aq H H':=by
 refine aQ Tryz.f243 ?_
 simp only[Tryz.f243]
 repeat'(first|((with_reducible show af _ _ _ _ _);refine ak H (zac _ ah (by first|exact h|exact h.same aw) i hi k false) ?_;intro H2 k2 l2 n2 g2 q2;try simp(disch:=omega)only[sm,sl]at l2 n2 g2 q2)|simp(disch:=omega)only[↓aa,ab,simprocAttr,sa, *])
 exact aF
def aZ{α:Type}(R:Heap→List Value→α→Prop)(z:Nat)(H:Heap)(v:Value)(l:List α):Prop:=SL R z H v l∧oe H v
def RW:Heap→List Value→Nat→Prop:=fun _ part n=>part=[wV n]
theorem RW.mono:oM RW:=fun _ _ _ _ _ h=>h
theorem OB{H:Heap}{cs:List Value}{ws:List Nat}(h:dD RW 1 H cs ws):cs=ws.map wV:=by
 refine waR fun i=>?_
 rw[war]
 by_cases hi:i<ws.length
 ·obtain⟨part,h1,h2⟩:=h.2 i ws[i] (by simp[hi])
  rw[h2,waY]at h1
  rw[Om h1,wj hi];rfl
 ·have:=h.1
  rw[wak (by omega),wak (by omega)];rfl
theorem yz{z b k r:Nat}{H:Heap}{new:List Value}{t:Bool}(hr:H.objs.get r=some (.row [] none t))(hk:k≠0)(hg:ed z b k=true):appendT z b H (.slice (some ⟨r,0,none⟩) 0 0) k new=some (.slice (some ⟨H.next,0,none⟩) k k,H.dx z new):=by
 have h1:Nat.ble k 0=false:=waK.2 fun hh=>by have:=wan hh;omega
 have h2:cut ([]:List Value) 0 (0*z)=some []:=by rw[dB];simp
 simp only[appendT,wau,h1,wS,hg,wa7,hr,h2,wo,wL]
theorem Ht(d:Nat)(a:Addr)(n c n' c':Nat):eqV E (d+1) 24 (.slice (some a) n c) (.slice none n' c')=some false:=kq
theorem zad(H:Heap)(aj:H.lo≤H.next)(v:Value)(ws:List Nat)(hv:aZ RW 1 H v ws)(h0:ws≠[])(hl:ws.length≤100000):af E (aC 64) [v] H fun r H'=>∃ rw,r= .slice (some ⟨rw,0,none⟩) ws.length ws.length∧H.next≤rw∧rw<H'.next∧H'.objs.get rw=some (.row (ws.map wV) (some (rw,1)) true)∧H'.grps.get rw=some []∧aq H H':=by
 obtain⟨hs,hr⟩:=hv
 have sN:aq H (H.newRow []):=fx _
 obtain⟨a,c,cs,rfl,oO,sf⟩:=(hs.mono RW.mono sN).Av (hr.same sN)
 rw[waY]at oO
 have ib:=OB sf
 subst ib
 have a9:ws.length≠0:=by cases ws<;>simp_all
 have qP:(H.newRow []).objs.get H.next=some (.row [] none true):=by simp(disch:=omega)only[aA,aM,aB,aJ,aH,aI,aN,aO,aR,aP,aL,aE,aK,au,sl]
 refine aQ Tryz.f64 ?_
 simp only[Tryz.f64]
 cases a with
 |none=>
  obtain⟨a',c',e,_,h⟩:=hs
  simp only[waq]at e
  obtain⟨r,o,_,_,_,_,h0,_⟩:=h 0 ws[0] (by simp[wj (show 0<ws.length by omega)])
  rw[h0]at e
  cases e.1
 |some a=>
  have di:=yz (z:=1) (b:=8) (k:=ws.length) (new:=ws.map wV) qP a9 (by simp[ed,lM,cC];omega)
  simp(disch:=omega)only[↓aa,ab,simprocAttr,sa,Ht,cC,eF, *]
  have g:=vM (b:=H.next) (H:=H.newRow []) (by simp(disch:=omega)only[aA,aM,aB,aJ,aH,aI,aN,aO,aR,aP,aL,aE,aK,au,sl];omega) 1 (ws.map wV)
  refine⟨H.next+1,rfl,by omega,by rw[fW];simp(disch:=omega)only[aA,aM,aB,aJ,aH,aI,aN,aO,aR,aP,aL,aE,aK,au,sl];omega,?_,?_,g.same sN (wy _)⟩
  ·rw[iM,cB (by simp(disch:=omega)only[aA,aM,aB,aJ,aH,aI,aN,aO,aR,aP,aL,aE,aK,au,sl])]
   simp(disch:=omega)only[aA,aM,aB,aJ,aH,aI,aN,aO,aR,aP,aL,aE,aK,au,sl]
  ·rw[jN,cB (by simp(disch:=omega)only[aA,aM,aB,aJ,aH,aI,aN,aO,aR,aP,aL,aE,aK,au,sl])];rfl
theorem zae(H:Heap)(aj:H.lo≤H.next)(v:Value)(ws:List Nat)(hv:aZ RW 1 H v ws)(h0:ws≠[])(hl:ws.length≤98304)(hu:∀ w∈ws,w<2^64):af E (aC 160) [v] H fun r H'=>∃ a rw,r= .tuple #[ptr a 0,.int .i64 0]∧Ar H' a rw rw ws∧H.next≤a∧H.next≤rw∧aq H H':=by
 have hc:=zad H aj v ws hv h0 (by omega)
 obtain⟨⟨a,c,rfl,_,_⟩,_⟩:=hv
 refine aQ Tryz.f160 ?_
 simp only[Tryz.f160]
 repeat'(first|(apply ao<;>intro)|simp(disch:=omega)only[↓aa,ab,simprocAttr,sa, *])
 all_goals try omega
 refine hc.mono ?_
 rintro r H2 ⟨rw,rfl,h1,h2,h3,h4,s2⟩
 have n2:=s2.ag
 simp(disch:=omega)only[↓aa,ab,simprocAttr,sa, *]
 refine⟨H2.next,rw,rfl,⟨?_,?_,?_,by simp(disch:=omega)only[aA,aM,aB,aJ,aH,aI,aN,aO,aR,aP,aL,aE,aK,au,sl];omega,by simp(disch:=omega)only[aA,aM,aB,aJ,aH,aI,aN,aO,aR,aP,aL,aE,aK,au,sl];omega,by simp(disch:=omega)only[aA,aM,aB,aJ,aH,aI,aN,aO,aR,aP,aL,aE,aK,au,sl];omega,by omega,hu,hl⟩,n2,h1,s2.newRow _⟩
 ·simp(disch:=omega)only[aA,aM,aB,aJ,aH,aI,aN,aO,aR,aP,aL,aE,aK,au,sl]
 ·simp(disch:=omega)only[aA,aM,aB,aJ,aH,aI,aN,aO,aR,aP,aL,aE,aK,au,sl];exact h3
 ·simp(disch:=omega)only[aA,aM,aB,aJ,aH,aI,aN,aO,aR,aP,aL,aE,aK,au,sl];exact h4
theorem OC{ws:List Nat}{i:Nat}{x:Nat}(h:ws[i]? =some x):cut (ws.map wV) (i*1) 1=some [wV x]:=by
 have hi:=(wD.1 h).1
 rw[dB,wF (by rw[wO];omega),waY,List.take_one,List.head?_drop,war,h]
 rfl
theorem za0(H:Heap)(aj:H.lo≤H.next)(v:Value)(l:List Span)(iP:SL bD 2 H v l)(hr:sg l)(hl:l.length≤100000):af E (aC 323) [v,.int .i64 l.length,aC 313] H fun r H'=>r= .tuple #[]∧aq H H':=by
 refine aQ Tryz.f323 ?_
 simp only[Tryz.f323]
 simp(disch:=omega)only[↓aa,ab,simprocAttr,sa, *]
 refine bC H [0,1,2,6,7,8] (fun T1 H1 u1 k1 n1 l1 g1=>?_) aw
 try simp(disch:=omega)only[sm,sl]at n1 l1 g1
 simp only[sq,simprocAttr]at u1
 refine bt kq (fun nn T X=>∃ a:Nat,nn=l.length+1-a∧(T.get 7=some (.int .i64 a)∧T.get 8=some (.int .i64 (a+20:Nat)))∧(T.get 0=T1.get 0∧T.get 1=T1.get 1∧T.get 2=T1.get 2∧T.get 6=T1.get 6)∧Ko H1 X∧X.lo=H1.lo∧(a≤l.length)) ?_ ?_
 ·refine⟨_,0,rfl,?_,?_,Ko.refl _,rfl,by omega⟩<;>exact ay
 rintro nn fk X1 ⟨a,rfl,m1,w1,bu,iz,hi⟩ Qs hQ aD ai
 have cw:=k1.trans bu;have fp:=bu.ag;have fX:=bu.objs
 by_cases hlt:a+20≤l.length
 ·repeat'(first|(apply ao<;>intro)|((with_reducible show af _ _ _ _ _);refine ak H1 (OF _ ah v l (iP.ext bD.mono (Ko.ext aw)) hr a (a+20) (by omega) (by omega) hl) ?_;intro H2 k2 l2 n2 g2 q2;try simp(disch:=omega)only[sm,sl]at l2 n2 g2 q2)|((with_reducible show Qs _ _ _ _ _);refine ai _ _ _ _ ?_)|simp(disch:=omega)only[↓aa,ab,simprocAttr,sa, *])
  all_goals try omega
  refine hQ _ _ _ ?_ ⟨a+20,rfl,?_,?_,?_,?_,by omega⟩<;>exact ay
 ·repeat'(first|(apply ao<;>intro)|((with_reducible show af _ _ _ _ _);refine ak H1 (OF _ ah v l (iP.ext bD.mono (Ko.ext aw)) hr a l.length (by omega) (by omega) hl) ?_;intro H2 k2 l2 n2 g2 q2;try simp(disch:=omega)only[sm,sl]at l2 n2 g2 q2)|((with_reducible show Qs _ _ _ _ _);refine ai _ _ _ _ ?_)|simp(disch:=omega)only[↓aa,ab,simprocAttr,sa, *])
  all_goals try omega
  refine bC H [0,1,2,6] (fun T2 H2 u2 k2 n2 l2 g2=>?_) aw
  try simp(disch:=omega)only[sm,sl]at n2 l2 g2
  simp only[sq,simprocAttr]at u2
  refine bt kq (fun nn T X=>∃ k:Nat,nn=l.length-k∧(T.get 6=some (.int .i64 k))∧(T.get 0=T2.get 0∧T.get 1=T2.get 1∧T.get 2=T2.get 2)∧True∧True∧(1≤k∧k≤200000∧Ko H X∧X.lo=H.lo)) ?_ ?_
  ·refine⟨_,20,rfl,?_,?_,trivial,trivial,⟨by omega,by omega,?_,?_⟩⟩<;>exact ay
  rintro nn vX X2 ⟨k,rfl,m2,w2,_,_,⟨hk,fC,gA,lX2⟩⟩ Qs hQ aD ai
  have HQ:=gA.ag;have gX2:=gA.objs
  by_cases ma:k<l.length
  ·repeat'(first|(apply ao<;>intro)|((with_reducible show Qs _ _ _ _ _);refine ai _ _ _ _ ?_)|simp(disch:=omega)only[↓aa,ab,simprocAttr,sa, *])
   all_goals try omega
   have DV:=hQ
   refine bC H [0,1,2,6,7,8] (fun T3 H3 u3 k3 n3 l3 g3=>?_) aw
   try simp(disch:=omega)only[sm,sl]at n3 l3 g3
   simp only[sq,simprocAttr]at u3
   refine bt kq (fun nn T X=>∃ a:Nat,nn=l.length+1-a∧(T.get 7=some (.int .i64 a)∧T.get 8=some (.int .i64 (a+2*k:Nat)))∧(T.get 0=T3.get 0∧T.get 1=T3.get 1∧T.get 2=T3.get 2∧T.get 6=T3.get 6)∧Ko H3 X∧X.lo=H3.lo∧(a≤l.length)) ?_ ?_
   ·refine⟨_,0,rfl,?_,?_,Ko.refl _,rfl,by omega⟩<;>exact ay
   rintro nn O0 X3 ⟨a,rfl,m3,w3,om,O1,hi⟩ Qs hQ aD ai
   have D6:=k3.trans om;have yD:=om.ag;have O2:=om.objs
   by_cases HR:a+2*k≤l.length
   ·repeat'(first|(apply ao<;>intro)|((with_reducible show af _ _ _ _ _);refine ak H3 (OT (a+2*k) _ ah v l (iP.ext bD.mono (Ko.ext aw)) hr a (a+k) (a+2*k) (by omega) (by omega) (by omega) (by omega) hl) ?_;intro H2 k2 l2 n2 g2 q2;try simp(disch:=omega)only[sm,sl]at l2 n2 g2 q2)|((with_reducible show Qs _ _ _ _ _);refine ai _ _ _ _ ?_)|simp(disch:=omega)only[↓aa,ab,simprocAttr,sa, *])
    all_goals try omega
    refine hQ _ _ _ ?_ ⟨a+2*k,rfl,?_,?_,?_,?_,by omega⟩<;>exact ay
   ·by_cases D7:a+k<l.length
    ·repeat'(first|(apply ao<;>intro)|((with_reducible show af _ _ _ _ _);refine ak H3 (OT l.length _ ah v l (iP.ext bD.mono (Ko.ext aw)) hr a (a+k) l.length (by omega) (by omega) (by omega) (by omega) hl) ?_;intro H2 k2 l2 n2 g2 q2;try simp(disch:=omega)only[sm,sl]at l2 n2 g2 q2)|((with_reducible show Qs _ _ _ _ _);refine ai _ _ _ _ ?_)|simp(disch:=omega)only[↓aa,ab,simprocAttr,sa, *])
     all_goals try omega
     have hQ:=DV
     refine hQ _ _ _ ?_ ⟨k*2,rfl,?_,?_,trivial,trivial,⟨by omega,by omega,?_,?_⟩⟩<;>exact ay
    ·repeat'(first|(apply ao<;>intro)|((with_reducible show Qs _ _ _ _ _);refine ai _ _ _ _ ?_)|simp(disch:=omega)only[↓aa,ab,simprocAttr,sa, *])
     all_goals try omega
     have hQ:=DV
     refine hQ _ _ _ ?_ ⟨k*2,rfl,?_,?_,trivial,trivial,⟨by omega,by omega,?_,?_⟩⟩<;>exact ay
  ·repeat'(first|(apply ao<;>intro)|((with_reducible show Qs _ _ _ _ _);refine ai _ _ _ _ ?_)|simp(disch:=omega)only[↓aa,ab,simprocAttr,sa, *])
   all_goals first
    |exact xW
    |omega
theorem za1(H:Heap)(aj:H.lo≤H.next)(v:Value)(l:List Span)(iP:SL bD 2 H v l)(hr:sg l)(hl:l.length≤100000):af E (aC 312) [v,aC 313] H fun r H'=>r= .tuple #[]∧aq H H':=by
 have hc:=za0 H aj v l iP hr hl
 obtain⟨ad,ca,rfl,_⟩:=iP
 refine aQ Tryz.f312 ?_
 simp only[Tryz.f312]
 repeat'(first|((with_reducible show af _ _ _ _ _);refine ak H (hc) ?_;intro H2 k2 l2 n2 g2 q2;try simp(disch:=omega)only[sm,sl]at l2 n2 g2 q2)|simp(disch:=omega)only[↓aa,ab,simprocAttr,sa, *])
 exact xW
theorem HS{z b:Nat}{H:Heap}(a:Addr)(c:Nat)(h:a.spot=none)(new:List Value):appendT z b H (.slice (some a) 0 c) 0 new=some (.slice (some a) 0 c,H):=by
 obtain⟨r,o,s⟩:=a
 cases h
 simp[appendT,show Nat.ble 0 c=true from rfl]
theorem aZ.mono{α:Type}{R:Heap→List Value→α→Prop}(hR:oM R){z:Nat}{H H':Heap}{v:Value}{l:List α}(hs:aq H H')(h:aZ R z H v l):aZ R z H' v l:=⟨h.1.mono hR hs,h.2.same hs⟩
theorem aZ.row{α:Type}{R:Heap→List Value→α→Prop}{z:Nat}{H H0:Heap}(hR:oM R){r:Nat}{cs:List Value}{g:Option (Nat×Nat)}{t:Bool}{l:List α}(hr:r<H.next)(aG:H.objs.get r=some (.row cs g t))(he:dD R z H0 cs l)(hx:Ext H0 H)(hl:l.length≤9223372036854775807):aZ R z H (.slice (some ⟨r,0,none⟩) l.length l.length) l:=by
 refine⟨SL.ofRow hr aG (wy _) hl fun i x hi=>?_,fun a n c e=>?_⟩
 ·obtain⟨part,h1,h2⟩:=he.2 i x hi
  exact⟨part,h1,hR _ _ _ _ hx h2⟩
 ·simp only[waq]at e
  obtain⟨rfl,_,_⟩:=e
  exact .inr ⟨r,_,_,_,rfl,hr,aG⟩
theorem aZ.nil{α:Type}{R:Heap→List Value→α→Prop}{z:Nat}{H:Heap}:aZ R z H (.slice none 0 0) []:=
 ⟨⟨none,0,rfl,⟨wy _,wJ _⟩,fun i x h=>by simp at h⟩,fun a n c e=>by cases e;exact .inl rfl⟩
theorem O3(d:Nat)(a:Addr)(n c n' c':Nat):eqV E (d+1) 25 (.slice (some a) n c) (.slice none n' c')=some false:=kq
theorem za2(H:Heap)(aj:H.lo≤H.next)(v:Value)(l:List Span)(hv:aZ bD 2 H v l)(hl:l.length≤100000):af E (aC 75) [v] H fun r H'=>(aZ bD 2 H' r l∧jl H.next r)∧aq H H':=by
 obtain⟨hs,hr⟩:=hv
 have sN:aq H (H.newRow []):=fx _
 obtain⟨a,c,cs,rfl,oO,sf⟩:=(hs.mono bD.mono sN).Av (hr.same sN)
 have qP:(H.newRow []).objs.get H.next=some (.row [] none true):=by simp(disch:=omega)only[aA,aM,aB,aJ,aH,aI,aN,aO,aR,aP,aL,aE,aK,au,sl]
 refine aQ Tryz.f75 ?_
 simp only[Tryz.f75]
 cases a with
 |none=>
  have e0:l=[]:=by
   cases l with
   |nil=>rfl
   |cons x l=>
    obtain⟨a',c',e,_,h⟩:=hs
    simp only[waq]at e
    obtain⟨r,o,_,_,_,_,h0,_⟩:=h 0 x rfl
    rw[h0]at e
    cases e.1
  subst e0
  simp(disch:=omega)only[↓aa,ab,simprocAttr,sa,wcy, *]
  exact⟨⟨aZ.nil,jl.nil _ _ _⟩,aF⟩
 |some a=>
  by_cases a9:l.length=0
  ·have e0:l=[]:=wac a9
   subst e0
   simp only[waA,wb2]at oO
   have di:=HS (z:=2) (b:=16) (H:=H.newRow []) ⟨H.next,0,none⟩ 0 rfl cs
   simp(disch:=omega)only[↓aa,ab,simprocAttr,sa,O3,cC,eF,waA, *]
   have hz:aZ bD 2 (H.newRow []) (.slice (some ⟨H.next,0,none⟩) 0 0) []:=aZ.row (l:=[]) bD.mono (by simp(disch:=omega)only[aA,aM,aB,aJ,aH,aI,aN,aO,aR,aP,aL,aE,aK,au,sl];omega) qP (dD.nil _ _ (H.newRow [])) ⟨wy _,fun x cells g t hx ho=>⟨t,ho⟩⟩ (by simp)
   exact⟨hz,jl.mk _ _ _ _ (wy _)⟩
  ·have di:=yz (z:=2) (b:=16) (k:=l.length) (new:=cs) qP a9 (by simp[ed,lM,cC];omega)
   simp(disch:=omega)only[↓aa,ab,simprocAttr,sa,O3,cC,eF, *]
   have g:=vM (b:=H.next) (H:=H.newRow []) (by simp(disch:=omega)only[aA,aM,aB,aJ,aH,aI,aN,aO,aR,aP,aL,aE,aK,au,sl];omega) 2 cs
   exact⟨⟨aZ.row bD.mono (by rw[fW];simp(disch:=omega)only[aA,aM,aB,aJ,aH,aI,aN,aO,aR,aP,aL,aE,aK,au,sl];omega) (g:=some (H.next+1,2)) (t:=true) (by rw[iM,cB (by simp(disch:=omega)only[aA,aM,aB,aJ,aH,aI,aN,aO,aR,aP,aL,aE,aK,au,sl])];simp(disch:=omega)only[aA,aM,aB,aJ,aH,aI,aN,aO,aR,aP,aL,aE,aK,au,sl]) sf g.ext (by omega),jl.mk _ _ _ _ (by omega)⟩,g.same sN (wy _)⟩
theorem za3(H:Heap)(aj:H.lo≤H.next)(v:Value)(l:List Span)(hv:aZ bD 2 H v l)(hr:sg l)(hl:l.length≤100000):af E (aC 296) [v] H fun r H'=>(aZ bD 2 H' r l∧jl H.next r)∧aq H H':=by
 refine aQ Tryz.f296 ?_
 simp only[Tryz.f296]
 simp(disch:=omega)only[↓aa,ab,simprocAttr,sa, *]
 refine(za2 H aj v l hv hl).mono ?_
 rintro r H2 ⟨⟨dW,hf⟩,s2⟩
 have k2:=s2.ko;have l2:=s2.lo;have n2:=s2.ag
 repeat'(first|((with_reducible show af _ _ _ _ _);refine ak H2 (za1 _ ah r l (dW.1.ext bD.mono (Ko.ext aw)) hr hl) ?_;intro H2 k2 l2 n2 g2 q2;try simp(disch:=omega)only[sm,sl]at l2 n2 g2 q2)|simp(disch:=omega)only[↓aa,ab,simprocAttr,sa, *])
 exact⟨dW.mono bD.mono (Ko.same (by assumption) (by assumption)),aF⟩
structure mn where
 ae:Int
 h:Hd
 e:Int
 last:Bool
def AW(s:mn):Value:= .agg #[.int .i64 s.ae,.int .i64 s.h.kind,.int .i64 s.h.fields,.int .i64 s.h.bO,.bool s.h.mark,.int .i64 s.h.fq,.int .i64 s.e,.bool s.last]
def iA(ws:List Nat)(top ae:Int):Int:=if cF ws ae=0∧top-ae<cu (aT ws ae)then 2 else cF ws ae
def dO(ws:List Nat)(top:Int):Nat→Int→List mn
 |0,ae=>[⟨ae,gJ,0,true⟩]
 |n+1,ae=>if ae<top then(if iA ws top ae=0 then⟨ae,aT ws ae,0,false⟩::dO ws top n (ae+cu (aT ws ae))else[⟨ae,gJ,iA ws top ae,true⟩])else[⟨ae,gJ,0,true⟩]
theorem vZ{ws:List Nat}{p:Int}(h:cF ws p=0):1≤cu (aT ws p):=by
 obtain⟨_,_,h3,_,_⟩:=kE h
 have:=jO h3
 unfold cu
 rw[wF h3]
 omega
theorem qT{ws:List Nat}{top p:Int}(h:iA ws top p=0):cF ws p=0∧cu (aT ws p)≤top-p:=by
 unfold iA at h
 split at h
 ·omega
 ·rename_i hn;exact⟨h,by omega⟩
theorem HT{ws:List Nat}{top:Int}:∀ (n m:Nat) (p:Int),(top-p).toNat≤n→(top-p).toNat≤m→dO ws top n p=dO ws top m p
 |0,0,_,_,_=>rfl
 |0,m+1,p,h,_=>by rw[dO,dO,wI (by omega)]
 |n+1,0,p,_,h=>by rw[dO,dO,wI (by omega)]
 |n+1,m+1,p,h,h'=>by
  rw[dO,dO]
  by_cases h1:p<top
  ·rw[wF h1,wF h1]
   by_cases h2:iA ws top p=0
   ·have:=vZ (qT h2).1
    rw[wF h2,wF h2,HT n m _ (by omega) (by omega)]
   ·rw[wI h2,wI h2]
  ·rw[wI h1,wI h1]
theorem Ar.base{H X:Heap}{ex:List Nat}{a rw g:Nat}{ws:List Nat}(h:Ar H a rw g ws)(b:fV H ex X)(ha:a∉ex)(hr:rw∉ex):Ar X a rw g ws:=
 ⟨(b.objs a h.la ha).trans h.box,(b.objs rw h.lw hr).trans h.row,(b.grps g h.lg).trans h.bH,by have:=h.la;have:=b.ag;omega,by have:=h.lw;have:=b.ag;omega,by have:=h.lg;have:=b.ag;omega,h.ne,h.u64,h.len⟩
theorem uz{α:Type}{enc:α→Value}{B:Nat}{O4:List Nat}{y:Value}{I:List α→Heap→Prop}{F:Heap→Prop}(hI:∀ rest X X',I rest X→Pd B X X'→I rest X')
  (hy:∀ v rest X,I (v::rest) X→af E y [enc v] X fun r X'=>(r= .bool true∧I rest X'∧Yd B O4 X X')∨(r= .bool false∧F X')) {v:α} {rest:List α} {X Xc:Heap} {K:Value→Heap→Prop} (hi:I (v::rest) X) (s:aq X Xc) (hn:B≤X.next)
  (kt:∀ X',I rest X'→Yd B O4 Xc X'→K (.bool true) X') (kf:∀ X',F X'→K (.bool false) X'):af E y [enc v] Xc K:=by
 refine(hy v rest Xc (hI _ _ _ hi (s.pd hn))).mono ?_
 rintro r X' (⟨rfl,h1,h2⟩|⟨rfl,h⟩)
 ·exact kt X' h1 h2
 ·exact kf X' h
theorem za4:E.fn.get 309=some Tryz.f309:=kq
theorem O5(H:Heap)(ex:List Nat)(aj:H.lo≤H.next)(bS bT bA a rw g:Nat)(s:Span)(top:Int)(ws:List Nat)(hS:H.objs.get bS=some (.row [.int .i64 s.ae,.int .i64 s.size] none true))(hT:H.objs.get bT=some (.row [.int .i64 top] none true))(hA:H.objs.get bA=some (.row [ptr a 0] none true))(lE:Ar H a rw g ws)
  (lS:bS<H.next) (lT:bT<H.next) (lA:bA<H.next) (nS:bS∉ex) (nT:bT∉ex) (nA:bA∉ex) (na:a∉ex) (nr:rw∉ex) (hex:∀ x:Nat,x∈ex→x<H.next) (hs:0≤s.ae∧s.ae≤1099511627776) (ht:s.ae≤top∧top≤1099511627776)
  (y:Value) (I:List mn→Heap→Prop) (F:Heap→Prop) (H1:Heap) (sH:aq H H1) (jq:H1.next=H.next+2) (hI:∀ rest X X',I rest X→Pd (H.next+2) X X'→I rest X') (hB:∀ rest X,I rest X→fV H ex X)
  (hy:∀ v rest X,I (v::rest) X→af E y [AW v] X fun r X'=>(r= .bool true∧I rest X'∧Yd (H.next+2) ((H.next+1)::ex) X X')∨(r= .bool false∧F X'))
  (h0:I (dO ws top (top-s.ae).toNat s.ae) H1):af E (.func (.func 309) #[] #[ptr bS 0,ptr bT 0,ptr bA 0]) [y] H1 fun _ X=>I [] X∨F X:=by
 have x6:=hB _ _ h0
 have e1:=(x6.objs bS lS nS).trans hS
 refine AF kq za4 rfl rfl ?_
 simp only[Tryz.f309]
 simp(disch:=omega)only[↓aa,ab,simprocAttr,sa,wL,wat, *]
 refine bt kq (fun nn T X=>∃ p:Int,nn=(top-p).toNat∧T.get 5=some (.int .i64 p)∧T.get 0=some y∧T.get 2=some (ptr bT 0)∧T.get 3=some (ptr bA 0)∧s.ae≤p∧p≤1099511627776∧I (dO ws top (top-p).toNat p) X) ⟨_,s.ae,rfl,by simp(disch:=omega)only[↓aa,ab,simprocAttr,sa,wL,wat],by simp(disch:=omega)only[↓aa,ab,simprocAttr,sa,wL,wat],by simp(disch:=omega)only[↓aa,ab,simprocAttr,sa,wL,wat],by simp(disch:=omega)only[↓aa,ab,simprocAttr,sa,wL,wat],by omega,by omega,h0⟩ ?_
 rintro nn T X ⟨p,rfl,t5,t0,t2,t3,hp,oI,hi⟩ Qs hQ aD ai
 have rb:=hB _ _ hi
 have l1:=rb.lo
 have n1:=rb.ag
 have fT:=(rb.objs bT lT nT).trans hT
 have fA:=(rb.objs bA lA nA).trans hA
 have h:=lE.base rb na nr
 by_cases hlt:p<top
 ·have hn:(top-p).toNat=(top-(p+1)).toNat+1:=by omega
  rw[hn,dO,wF hlt]at hi
  have bh:=yy (h:=aT ws p)
  simp(disch:=omega)only[↓aa,ab,simprocAttr,sa, *]
  refine ak X (oN _ ah h p (by omega)) ?_
  intro Ha ka la na ga qa
  repeat'(first|(apply ao<;>intro)|refine az 3 [Fx,Fx,Fx,Fx,Tx,Fx,Fx,Fx,Fx,Fx] ?_|((with_reducible show af _ _ _ _ _);refine ak X (qO _ ah (aT ws p)) ?_;intro H2 k2 l2 n2 g2 q2;try simp(disch:=omega)only[sm,sl]at l2 n2 g2 q2)|simp(disch:=omega)only[↓aa,ab,simprocAttr,sa,bK, *])
  ·have he:iA ws top p=2:=by unfold iA;rw[wF ⟨by assumption,by omega⟩]
   rw[wI (by omega),he]at hi
   refine uz hI hy hi aF n1 ?_ ?_
   ·intro X' h1 h2
    repeat'(first|((with_reducible show Qs _ _ _ _ _);refine aD _ _ _ ?_)|simp(disch:=omega)only[↓aa,ab,simprocAttr,sa, *])
    exact .inl trivial
   ·intro X' h1
    repeat'(first|((with_reducible show Qs _ _ _ _ _);refine aD _ _ _ ?_)|simp(disch:=omega)only[↓aa,ab,simprocAttr,sa, *])
    exact .inr trivial
  ·have he:iA ws top p=0:=by unfold iA;rw[wI (by omega)];assumption
   rw[wF he]at hi
   refine uz hI hy hi aF n1 ?_ ?_
   ·intro X' h1 h2
    have nb:Ha.next∉(H.next+1)::ex:=fun hh=>by
     rcases wad.1 hh with hh|hh
     ·omega
     ·have:=hex _ hh;omega
    have eb:=h2.alone Ha.next _ true (by simp(disch:=omega)only[aA,aM,aB,aJ,aH,aI,aN,aO,aR,aP,aL,aE,aK,au,sl];omega) nb (by simp(disch:=omega)only[aA,aM,aB,aJ,aH,aI,aN,aO,aR,aP,aL,aE,aK,au,sl,g2];rfl)
    have l3:=h2.lo;have n3:=h2.ag
    simp only[aE,aK]at l3 n3
    clear h2
    repeat'(first|((with_reducible show af _ _ _ _ _);refine KU (H0:=X') aw (qO _ ah (aT ws p)) ?_;intro H2 k2 l2 n2 g2 q2;try simp(disch:=omega)only[sm,sl]at l2 n2 g2 q2)|simp(disch:=omega)only[↓aa,ab,simprocAttr,sa,bK, *])
    have kz:=vZ (qT he).1
    have me:=(qT he).2
    rw[HT _ (top-(p+cu (aT ws p))).toNat _ (by omega) (wy _)]at h1
    refine hQ _ _ _ ?_ ⟨p+cu (aT ws p),rfl,?_,?_,?_,?_,by omega,by omega,?_⟩
    ·omega
    iterate 4 exact ay
    exact hI _ _ _ h1 (aq.pd aF (by omega))
   ·intro X' h1
    repeat'(first|((with_reducible show Qs _ _ _ _ _);refine aD _ _ _ ?_)|simp(disch:=omega)only[↓aa,ab,simprocAttr,sa, *])
    exact .inr trivial
  ·have he:iA ws top p=cF ws p:=by unfold iA;rw[wI (by omega)]
   rw[wI (by rw[he];assumption),he]at hi
   refine uz hI hy hi aF n1 ?_ ?_
   ·intro X' h1 h2
    repeat'(first|((with_reducible show Qs _ _ _ _ _);refine aD _ _ _ ?_)|simp(disch:=omega)only[↓aa,ab,simprocAttr,sa, *])
    exact .inl trivial
   ·intro X' h1
    repeat'(first|((with_reducible show Qs _ _ _ _ _);refine aD _ _ _ ?_)|simp(disch:=omega)only[↓aa,ab,simprocAttr,sa, *])
    exact .inr trivial
 ·repeat'(first|((with_reducible show Qs _ _ _ _ _);refine ai _ _ _ _ ?_)|simp(disch:=omega)only[↓aa,ab,simprocAttr,sa, *])
  rw[show(top-p).toNat=0 by omega,dO]at hi
  refine uz hI hy hi aF n1 ?_ ?_
  ·intro X' h1 h2
   simp(disch:=omega)only[↓aa,ab,simprocAttr,sa, *]
   exact .inl trivial
  ·intro X' h1
   simp(disch:=omega)only[↓aa,ab,simprocAttr,sa, *]
   exact .inr trivial
theorem O6(H:Heap)(aj:H.lo≤H.next)(a:Nat)(s:Span)(top:Int):af E (aC 286) [ptr a 0,bn s,.int .i64 top] H fun r H'=>r= .func (.func 309) #[] #[ptr (H.next+1) 0,ptr (H.next+1+1) 0,ptr H.next 0]∧H'.objs.get H.next=some (.row [ptr a 0] none true)∧H'.objs.get (H.next+1)=some (.row [.int .i64 s.ae,.int .i64 s.size] none true)∧H'.objs.get (H.next+1+1)=some (.row [.int .i64 top] none true)∧H'.next=H.next+3∧aq H H':=by
 refine aQ Tryz.f286 ?_
 simp only[Tryz.f286]
 simp only[bn]
 simp(disch:=omega)only[↓aa,ab,simprocAttr,sa,DK,GQ,DM,DL, *]
 exact⟨rfl,aF⟩
def yE:List mn→Prop
 |[]=>False
 |[s]=>s.last=true
 |s::l=>s.last=false∧yE l
def kI:List mn→Int×Int
 |[]=>(0,0)
 |[s]=>(s.ae,s.e)
 |_::l=>kI l
theorem HU(ws:List Nat)(top:Int):∀ n p,yE (dO ws top n p)
 |0,p=>rfl
 |n+1,p=>by
  rw[dO]
  split
  ·split
   ·have:=HU ws top n (p+cu (aT ws p))
    revert this
    generalize dO ws top n (p+cu (aT ws p))=l
    intro h
    cases l with
    |nil=>exact h.elim
    |cons x l=>exact⟨rfl,h⟩
   ·rfl
  ·rfl
theorem za5{v:mn}{rest:List mn}(h:yE (v::rest))(hl:v.last=true):rest=[]:=by
 cases rest with
 |nil=>rfl
 |cons x l=>have:=h.1;rw[hl]at this;cases this
theorem za6{v:mn}{rest:List mn}(h:yE (v::rest))(hl:v.last=false):yE rest∧kI (v::rest)=kI rest:=by
 cases rest with
 |nil=>have h:v.last=true:=h;rw[hl]at h;cases h
 |cons x l=>exact⟨h.2,rfl⟩
theorem fV.ko{H H3 X:Heap}{ex:List Nat}(b:fV H3 ex X)(k:Ko H H3)(hex:∀ x:Nat,x∈ex→H.next≤x):Ko H X:=by
 have h1:=k.ag;have h2:=b.ag
 exact⟨by omega,fun x hx=>(b.objs x (by omega) fun hh=>by have:=hex x hh;omega).trans (k.objs x hx),fun x hx=>(b.grps x (by omega)).trans (k.grps x hx)⟩
theorem AQ{H X:Heap}{gr:Tr (List Nat)}{nx k:Nat}(h:Ko H X)(hk:H.next≤k)(hg:gr=X.grps)(hn:nx=X.next):aq H ⟨X.objs.del k,gr,nx,H.lo⟩:=by
 subst hg hn
 exact⟨rfl,h.ag,fun x hx=>(uq _ _ _ (by omega)).trans (h.objs x hx),h.grps⟩
theorem AP{H X:Heap}{gr:Tr (List Nat)}{nx:Nat}(k:Ko H X)(hg:gr=X.grps)(hn:nx=X.next):aq H ⟨X.objs,gr,nx,H.lo⟩:=by
 subst hg hn
 exact⟨rfl,k.ag,k.objs,k.grps⟩
def mo(ws:List Nat)(s:Span)(top:Int):Int×Int:=if bw s∧s.ae≤top∧top≤s.stop then kI (dO ws top (top-s.ae).toNat s.ae)else(0,1)
theorem za7:E.fn.get 285=some Tryz.f285:=kq
theorem O7(H:Heap)(aj:H.lo≤H.next){a rw g:Nat}{ws:List Nat}(lE:Ar H a rw g ws)(s:Span)(top:Int):af E (aC 285) [ptr a 0,bn s,.int .i64 top] H fun r H'=>r= .tuple #[.int .i64 (mo ws s top).1,.int .i64 (mo ws s top).2]∧aq H H':=by
 refine DB kq za7 rfl rfl ?_
 simp only[Tryz.f285,bn]
 by_cases hm:bw s
 case neg=>
  have e:mo ws s top=(0,1):=wI fun h=>hm h.1
  repeat'(first|((with_reducible show af _ _ _ _ _);refine ak H (qL _ ah s) ?_;intro H2 k2 l2 n2 g2 q2;try simp(disch:=omega)only[sm,sl]at l2 n2 g2 q2)|simp(disch:=omega)only[↓aa,ab,simprocAttr,sa,wL,waw, *])
  refine⟨_,rfl,?_⟩
  simp(disch:=omega)only[↓aa,ab,simprocAttr,sa, *]
  exact AP aw rfl rfl
 have eE:=hm
 unfold bw at eE
 by_cases ht:s.ae≤top∧top≤s.ae+s.size
 case neg=>
  have e:mo ws s top=(0,1):=wI fun h=>ht h.2
  by_cases GM:top<s.ae
  ·repeat'(first|((with_reducible show af _ _ _ _ _);refine ak H (qL _ ah s) ?_;intro H2 k2 l2 n2 g2 q2;try simp(disch:=omega)only[sm,sl]at l2 n2 g2 q2)|simp(disch:=omega)only[↓aa,ab,simprocAttr,sa,wL,waw, *])
   all_goals try omega
   refine⟨_,rfl,?_⟩
   simp(disch:=omega)only[↓aa,ab,simprocAttr,sa, *]
   exact AP aw rfl rfl
  ·have ht2:s.ae+s.size<top:=by omega
   repeat'(first|((with_reducible show af _ _ _ _ _);refine ak H (qL _ ah s) ?_;intro H2 k2 l2 n2 g2 q2;try simp(disch:=omega)only[sm,sl]at l2 n2 g2 q2)|simp(disch:=omega)only[↓aa,ab,simprocAttr,sa,wL,waw, *])
   all_goals try omega
   refine⟨_,rfl,?_⟩
   simp(disch:=omega)only[↓aa,ab,simprocAttr,sa, *]
   exact AP aw rfl rfl
 have e:mo ws s top=kI (dO ws top (top-s.ae).toNat s.ae):=wF ⟨hm,ht⟩
 repeat'(first|refine ao (fun _=>?_) (fun _=>?_)|apply bQ|((with_reducible show af _ _ _ _ _);refine ak H (qL _ ah s) ?_;intro H2 k2 l2 n2 g2 q2;try simp(disch:=omega)only[sm,sl]at l2 n2 g2 q2)|simp(disch:=omega)only[↓aa,ab,simprocAttr,sa,wL,waw, *])
 all_goals try omega
 refine(O6 H2 (by omega) a s top).mono ?_
 rintro r H3 ⟨rfl,b1,b2,b3,n3,s3⟩
 have l3:=s3.lo;have k3:=k2.call s3
 have c1:H3.objs.get (H.next+1)=some (.row [.int .i64 0] none true):=by rw[s3.objs _ (by omega),g2 _ (by omega)];simp(disch:=omega)only[aA,aM,aB,aJ,aH,aI,aN,aO,aR,aP,aL,aE,aK,au,sl]
 have c2:H3.objs.get (H.next+1+1)=some (.row [.int .i64 0] none true):=by rw[s3.objs _ (by omega),g2 _ (by omega)];simp(disch:=omega)only[aA,aM,aB,aJ,aH,aI,aN,aO,aR,aP,aL,aE,aK,au,sl]
 have uA:=lE.same k3
 refine CO (enc:=AW) (xs:=dO ws top (top-s.ae).toNat s.ae) (g:=309) (first:= #[]) (cap:= #[ptr (H2.next+1) 0,ptr (H2.next+1+1) 0,ptr H2.next 0])
  (J:=fun rest X=>yE rest∧kI rest=mo ws s top∧X.objs.get (H.next+1)=some (.row [.int .i64 0] none true)∧X.objs.get (H.next+1+1)=some (.row [.int .i64 0] none true))
  (R:=fun X=>X.objs.get (H.next+1)=some (.row [.int .i64 (mo ws s top).1] none true)∧X.objs.get (H.next+1+1)=some (.row [.int .i64 (mo ws s top).2] none true))
  (ex:=[H.next+1,H.next+1+1]) ?_ (by omega) ?_ ?_ (fun _ _=>by kernel_rfl) (fun _ _ _=>by kernel_rfl) ?_ ?_ ?_ ?_ ?_ ?_ ?_ ?_
 ·intro x hx;simp only[wad,wbb,wck]at hx;omega
 ·simp(disch:=omega)only[↓aa,ab,simprocAttr]
 ·exact wap rfl
 ·rintro rest X X' ⟨h1,h2,h3,h4⟩ rb pd
  exact⟨h1,h2,(pd.objs _ (by omega)).trans h3,(pd.objs _ (by omega)).trans h4⟩
 ·rintro rest X X' ⟨h1,h2,h3,h4⟩ of
  exact⟨h1,h2,(of.objs _ (by omega)).trans h3,(of.objs _ (by omega)).trans h4⟩
 ·rintro X X' ⟨h3,h4⟩ of
  exact⟨(of.objs _ (by omega)).trans h3,(of.objs _ (by omega)).trans h4⟩
 ·intro X rb sX
  exact⟨HU _ _ _ _,e.symm,(sX.objs _ (by omega)).trans c1,(sX.objs _ (by omega)).trans c2⟩
 ·intro y I F H1 sH jq hI hB hy h0
  have hx:∀ x:Nat,x=H.next+1∨x=H.next+1+1↔x∈[H.next+1,H.next+1+1]:=fun x=>by simp
  refine O5 H3 [H.next+1,H.next+1+1] (by omega) (H2.next+1) (H2.next+1+1) H2.next a rw g s top ws b2 b3 b1 uA (by omega) (by omega) (by omega) ?_ ?_ ?_ ?_ ?_ ?_ ⟨by omega,by omega⟩ ⟨by omega,by omega⟩ y I F H1 sH jq hI hB hy h0
  iterate 5 (rw[←hx];have:=lE.la;have:=lE.lw;omega)
  intro x hh
  rw[←hx]at hh
  omega
 ·rintro v rest X ⟨h1,h2,h3,h4⟩ rb
  have lX:=rb.lo;have nX:=rb.ag
  simp only[AW]
  simp(disch:=omega)only[↓aa,ab,simprocAttr,sa, *]
  refine⟨aF,fun X2 of=>?_⟩
  have o1:=of.next;have o2:=of.lo
  have o3:=of.objs X.next (by omega)
  have o4:=of.objs (H.next+1) (by omega)
  have o5:=of.objs (H.next+1+1) (by omega)
  simp(disch:=omega)only[sm,sl]at o1 o2 o3 o4 o5
  clear of
  cases hl:v.last with
  |true=>
   repeat'(first|refine az 6 [Fx,Fx,Fx,Fx,(false,[3],[]),Fx] ?_|simp(disch:=omega)only[↓aa,ab,simprocAttr,sa, *])
   obtain rfl:=za5 h1 hl
   rw[←e,←h2]
   exact⟨((Yd.refl _ _ X2).setRow (by simp) _).setRow (by simp) _,.inr ⟨rfl,rfl⟩⟩
  |false=>
   simp(disch:=omega)only[↓aa,ab,simprocAttr,sa, *]
   obtain⟨w1,w2⟩:=za6 h1 hl
   exact⟨Yd.refl _ _ X2,.inl ⟨w1,by rw[←w2,h2,e]⟩⟩
 ·rintro X ⟨h1,_⟩
  exact h1.elim
 ·rintro X ⟨h3,h4⟩ rb
  have lX:=rb.lo;have nX:=rb.ag
  have dX:=rb.vy
  refine⟨_,Au dX (by omega),?_⟩
  have d1:=uq X.objs (H2.next+3) (H.next+1) (by omega)
  have d2:=uq X.objs (H2.next+3) (H.next+1+1) (by omega)
  simp(disch:=omega)only[↓aa,ab,simprocAttr,sa, *]
  exact AQ (rb.ko k3 (by intro x hx;simp only[wad,wbb,wck]at hx;omega)) (by omega) rfl rfl
end Go.AM
