/-
  Walks over letters of the functions that the law reaches; written small by a program of mine.
-/
import Derived.Test.YtjgppeeplkidpaaGreatAMc
import Derived.ChangeArms
import Derived.WideShapes
set_option linter.unusedSimpArgs false
set_option linter.unusedVariables false
set_option linter.unusedSectionVars false
namespace Go.AM
attribute [local instance] fnMaps
section
variable(w:World)
def roomAt(b:Nat):Nat:=
 match w.heap[b]? with
 |some (.cells C _ _)=>C.size
 |_=>0
def mostRoom:Nat→Nat
 |0=>0
 |n+1=>max (roomAt w n) (mostRoom n)
theorem RY{b n:Nat}(h:b<n):roomAt w b≤mostRoom w n:=by
 induction n with
 |zero=>omega
 |succ n ih=>
  simp only[mostRoom]
  by_cases hb:b=n
  ·subst hb;omega
  ·have:=ih (by omega);omega
def tr(b o:Nat):Nat:=o*w.heap.size+b
def iY(b:Nat):Bool:=
 match w.heap[b]? with
 |some (.cells _ _ _)=>true
 |_=>false
def oX:Option Nat:=(List.range w.heap.size).find? (iY w)
def iF:Nat:=(mostRoom w w.heap.size+1)*w.heap.size
def rB(a:Addr):Bool:=a.spot.isNone&&iY w a.block&&Nat.ble a.off (roomAt w a.block)
def okV:Value→Bool
 | .bool _| .int _ _| .string _| .slice none _ _=>true
 | .slice (some a) l c=>rB w a||(Nat.beq l 0&&Nat.beq c 0&&(oX w).isSome)
 |_=>false
def trV:Value→Value
 | .slice (some a) l c=>bif rB w a then .slice (some ⟨tr w a.block a.off,0,none⟩) l c else .slice (some ⟨iF w,0,none⟩) 0 0
 |v=>v
def rowAt(b o:Nat):List Value:=
 match w.heap[b]? with
 |some (.cells C _ _)=>((C.toList.drop o).takeWhile (okV w)).map (trV w)
 |_=>[]
def wm:Match:=fun r=>
 if r=iF w then(oX w).map fun b=>⟨b,0,roomAt w b,false,0⟩
 else bif iY w (r%w.heap.size)&&Nat.ble (r/w.heap.size) (roomAt w (r%w.heap.size))then some ⟨r%w.heap.size,r/w.heap.size,roomAt w (r%w.heap.size),true,0⟩else none
def wh:Heap:={objs:=fun r=>if r=iF w then some (.row [] (some (0,0)) false)else some (.row (rowAt w (r%w.heap.size) (r/w.heap.size)) none true),grps:=fun _=>none,next:=iF w+1,lo:=iF w+1}
theorem rC{b:Nat}(h:iY w b=true):b<w.heap.size:=by
 unfold iY at h
 split at h
 ·rename_i hc;exact(w0.1 hc).1
 ·cases h
theorem Ks{b:Nat}(h:iY w b=true):∃ C e fr,w.heap[b]? =some (.cells C e fr)∧roomAt w b=C.size:=by
 unfold iY at h
 split at h
 ·rename_i C e fr hc;exact⟨C,e,fr,hc,by unfold roomAt;rw[hc]⟩
 ·cases h
theorem RZ{b:Nat}(h:oX w=some b):iY w b=true:=List.find?_some h
theorem R0{b:Nat}(h:iY w b=true):(oX w).isSome=true:=by
 unfold oX
 rw[List.find?_isSome]
 exact⟨b,by simpa using rC w h,h⟩
theorem E5{b o:Nat}(h:b<w.heap.size):tr w b o%w.heap.size=b∧tr w b o/w.heap.size=o:=by
 unfold tr
 have hp:0<w.heap.size:=by omega
 constructor
 ·rw[wcG,Nat.mul_add_mod,Nat.mod_eq_of_lt h]
 ·rw[wcG,Nat.mul_add_div hp,Nat.div_eq_of_lt h,waX]
theorem Kt{r:Nat}(h1:iY w (r%w.heap.size)=true)(h2:r/w.heap.size≤roomAt w (r%w.heap.size)):r<iF w:=by
 have h3:=rC w h1
 have h4:=RY w h3
 have h5:=Nat.div_add_mod r w.heap.size
 unfold iF
 have h6:r/w.heap.size≤mostRoom w w.heap.size:=by omega
 have h7:=Nat.mul_le_mul_left w.heap.size h6
 rw[waW,wbU,wcG (mostRoom w w.heap.size)]
 omega
theorem Cj{b o:Nat}(h:iY w b=true)(ho:o≤roomAt w b):tr w b o<iF w:=by
 obtain⟨h1,h2⟩:=E5 w (o:=o) (rC w h)
 exact Kt w (by rw[h1];exact h) (by rw[h1,h2];exact ho)
theorem R3{b o:Nat}(h:iY w b=true)(ho:o≤roomAt w b):wm w (tr w b o)=some ⟨b,o,roomAt w b,true,0⟩:=by
 obtain⟨h1,h2⟩:=E5 w (o:=o) (rC w h)
 have:=Cj w h ho
 unfold wm
 rw[wI (by omega),h1,h2,h,wP ho]
 rfl
theorem E6{r:Nat}{p:dV}(h:wm w r=some p):(r=iF w∧iY w p.ax=true∧p=⟨p.ax,0,roomAt w p.ax,false,0⟩)∨
  (r<iF w∧iY w (r%w.heap.size)=true∧r/w.heap.size≤roomAt w (r%w.heap.size)∧p=⟨r%w.heap.size,r/w.heap.size,roomAt w (r%w.heap.size),true,0⟩):=by
 unfold wm at h
 split at h
 ·rename_i hr
  simp only[wa6]at h
  obtain⟨b,hb,rfl⟩:=h
  exact .inl ⟨hr,RZ w hb,rfl⟩
 ·right
  cases hb:iY w (r%w.heap.size)with
  |false=>rw[hb]at h;simp at h
  |true=>
   cases ho:Nat.ble (r/w.heap.size) (roomAt w (r%w.heap.size))with
   |false=>rw[hb,ho]at h;simp at h
   |true=>
    rw[hb,ho]at h
    simp only[wb8,wai,wi]at h
    have h2:=wan ho
    exact⟨Kt w hb h2,rfl,h2,h.symm⟩
theorem zt{r:Nat}(h:r≠iF w):(wh w).objs.get r=some (.row (rowAt w (r%w.heap.size) (r/w.heap.size)) none true):=by
 show(if r=iF w then _ else _)=_
 rw[wI h]
theorem zu:(wh w).objs.get (iF w)=some (.row [] (some (0,0)) false):=by
 show(if iF w=iF w then _ else _)=_
 rw[wF rfl]
theorem Ku{b o:Nat}(h:iY w b=true)(ho:o≤roomAt w b):(wh w).objs.get (tr w b o)=some (.row (rowAt w b o) none true):=by
 obtain⟨h1,h2⟩:=E5 w (o:=o) (rC w h)
 have:=Cj w h ho
 rw[zt w (by omega),h1,h2]
theorem Kv{a:Addr}(h:rB w a=true):a.spot=none∧iY w a.block=true∧a.off≤roomAt w a.block:=by
 simp only[rB,wA]at h
 exact⟨by simpa using h.1.1,h.1.2,wan h.2⟩
theorem Kw{v:Value}(h:okV w v=true):VRel (wm w) (trV w v) v:=by
 match v,h with
 | .bool b,_=>exact .bool b
 | .int k n,_=>exact .int k n
 | .string s,_=>exact .string s
 | .slice none l c,_=>exact .qk l c
 | .slice (some a) l c,h=>
   simp only[trV]
   cases hp:rB w a with
   |true=>
    obtain⟨h1,h2,h3⟩:=Kv w hp
    obtain⟨b,o,s⟩:=a
    simp only at h1 h2 h3
    subst h1
    exact VRel.slice (m:=wm w) (r:=tr w b o) (o:=0) (l:=l) (c:=c) (c':=c) (R3 w h2 h3) (wy _) (fun _=>rfl) (fun h=>by cases h)
   |false=>
    simp only[okV,hp,wct,wA]at h
    obtain⟨⟨h1,h2⟩,h3⟩:=h
    have h1:=wbw h1
    have h2:=wbw h2
    subst h1 h2
    obtain⟨b,hb⟩:=wci.1 h3
    have hm:wm w (iF w)=some ⟨b,0,roomAt w b,false,0⟩:=by
     unfold wm
     rw[wF rfl,hb]
     rfl
    exact VRel.empty (r:=iF w) (o:=0) a hm rfl
theorem Kx{p:Value→Bool}:∀ {l:List Value} {i:Nat} {u:Value},(l.takeWhile p)[i]? =some u→l[i]? =some u∧p u=true
 |[],i,u,h=>by simp at h
 |x::l,i,u,h=>by
  by_cases hx:p x=true
  ·rw[wcv hx]at h
   cases i with
   |zero=>simp at h;subst h;exact⟨rfl,hx⟩
   |succ i=>simpa using Kx (l:=l) (by simpa using h)
  ·rw[List.takeWhile_cons_of_neg hx]at h
   simp at h
theorem Kz{p:Value→Bool}:∀ (l:List Value),(l.takeWhile p).length≤l.length
 |[]=>by simp
 |x::l=>by
  by_cases hx:p x=true
  ·rw[wcv hx];simp;exact Kz l
  ·rw[List.takeWhile_cons_of_neg hx];simp
theorem KK{p:Value→Bool}:∀ (l:List Value) (n:Nat),(∀i u,i<n→l[i]? =some u→p u=true)→n≤l.length→∀ i,i<n→(l.takeWhile p)[i]? =l[i]?
 |[],n,_,hn,i,hi=>by simp at hn;omega
 |x::l,0,_,_,i,hi=>by omega
 |x::l,n+1,h,hn,i,hi=>by
  have hx:p x=true:=h 0 x (by omega) rfl
  rw[wcv hx]
  cases i with
  |zero=>rfl
  |succ i=>
   simp only[wbo]
   exact KK l n (fun j u hj hu=>h (j+1) u (by omega) (by simpa using hu)) (by simpa using hn) i (by omega)
theorem KL{b o:Nat}{C:Array Value}{e:TypeId}{fr:Nat×Nat}(hC:w.heap[b]? =some (.cells C e fr)):rowAt w b o=((C.toList.drop o).takeWhile (okV w)).map (trV w):=by
 unfold rowAt;rw[hC]
theorem R4{b o:Nat}{C:Array Value}{e:TypeId}{fr:Nat×Nat}(hC:w.heap[b]? =some (.cells C e fr))(ho:o≤C.size):o+(rowAt w b o).length≤C.size∧th (wm w) (rowAt w b o) C o:=by
 rw[KL w hC]
 have cg:=Kz (p:=okV w) (C.toList.drop o)
 refine⟨?_,fun i v hi=>?_⟩
 ·simp only[wO]
  have:(C.toList.drop o).length=C.size-o:=by simp
  omega
 ·simp only[war,wa6]at hi
  obtain⟨u,hu,rfl⟩:=hi
  obtain⟨h1,h2⟩:=Kx hu
  refine⟨u,?_,Kw w h2⟩
  rw[wae]at h1
  simpa using h1
theorem world_rel(hg:GN≤w.heap.size∧GL w):Rel w.heap.size (wh w).lo (wm w) (wh w) w where
 base:=wy _
 fJ:=hg
 lo:=wy _
 ag:=wy _
 dom r p h:=by
  rcases E6 w h with⟨rfl,h1,_⟩|⟨h0,h1,h2,rfl⟩
  ·exact⟨wcd _,rC w h1,fun h4=>absurd h4 (wcK _),fun _=>rC w h1⟩
  ·exact⟨wbf h0,rC w h1,fun h4=>absurd (wbf h0) (Nat.not_lt.2 h4),fun _=>rC w h1⟩
 obj r p o h ho:=by
  rcases E6 w h with⟨rfl,h1,hp⟩|⟨h0,h1,h2,rfl⟩
  ·obtain⟨C,e,fr,hC,lK⟩:=Ks w h1
   rw[zu]at ho
   simp only[wi]at ho
   subst ho
   rw[hp]
   refine⟨⟨C,e,fr,hC,lK.symm,fun hw=>?_,wJ _,fun i v hi=>by simp at hi⟩,rfl,fun g z h=>?_⟩
   ·simp only[wT]at hw
    exact absurd hw (wcK _)
   ·simp only[wi,wk]at h
    exact h.2
  ·obtain⟨C,e,fr,hC,lK⟩:=Ks w h1
   rw[zt w (by omega)]at ho
   simp only[wi]at ho
   subst ho
   rw[lK]at h2
   obtain⟨h4,h5⟩:=R4 w hC h2
   refine⟨⟨C,e,fr,hC,lK.symm,fun hw=>?_,h4,h5⟩,rfl,fun g z h=>by cases h⟩
   simp only[wT]at hw
   exact absurd (wbf h0) (Nat.not_lt.2 hw)
 sep r r' p p' o o' _ aj h _ _ _ _:=by
  rcases E6 w h with⟨rfl,_⟩|⟨h0,_⟩
  ·exact absurd aj (wcK _)
  ·exact absurd (wbf h0) (Nat.not_lt.2 aj)
 dF r r' p p' c c' g z z' _ _ h:=by
  by_cases hr:r=iF w
  ·subst hr;rw[zu]at h;simp at h
  ·rw[zt w hr]at h;simp at h
 aS r p c g z _ h l hl:=by
  have:(none:Option (List Nat))=some l:=hl
  cases this
 ends r r' p p' c c' g z z' t _ _ h:=by
  by_cases hr:r=iF w
  ·subst hr;rw[zu]at h;simp at h
  ·rw[zt w hr]at h;simp at h
 bH r p c g z t _ h:=by
  by_cases hr:r=iF w
  ·subst hr;rw[zu]at h
   simp only[wi,AObj.row.injEq,wk]at h
   rw[←h.2.1.1]
   exact Nat.succ_pos _
  ·rw[zt w hr]at h;simp at h
variable{w}
theorem KM{base:Nat}{a:Addr}{n:Nat}{cs:List Value}(h:w.cells? base a n=some cs):cs.length=n∧∀ j,j<n→w.cell? (a.add j)=cs[j]? :=by
 unfold World.cells? at h
 split at h
 ·refine⟨by simpa using mapM_some_length h,fun j hj=>?_⟩
  exact mapM_some_get h j j (by simp[hj])
 ·cases h
theorem add_add(a:Addr)(m n:Nat):(a.add m).add n=a.add (m+n):=by
 by_cases hn:n=0
 ·subst hn;simp[Addr.add]
 ·by_cases hm:m=0
  ·subst hm;simp[Addr.add]
  ·have:m+n≠0:=by omega
   simp[Addr.add,hn,hm,this,wbH]
theorem KN(a:Addr)(n:Nat):(a.add n).block=a.block:=by
 unfold Addr.add;split<;>rfl
theorem KO(a:Addr)(n:Nat):(a.add n).off=a.off+n:=by
 unfold Addr.add;split
 ·subst_vars;rfl
 ·rfl
theorem R5{a:Addr}(h:a.spot=none)(n:Nat):(a.add n).spot=none:=by
 unfold Addr.add;split
 ·exact h
 ·rfl
theorem KP{a:Addr}{v:Value}(h:w.cell? a=some v):a.spot=none∧∃ C e fr,w.heap[a.block]? =some (.cells C e fr)∧C[a.off]? =some v:=by
 unfold World.cell? at h
 split at h
 ·rename_i C e fr hC
  split at h
  ·cases h
  ·rename_i hs
   exact⟨by simpa using hs,C,e,fr,hC,h⟩
 ·cases h
theorem SL.R6{H:Type}{enc:TypeId×Value→H}{P:Program}{base:Nat}{held:Bool}{α:Type}{R:Heap→List Value→α→Prop}{z:Nat}{t e:TypeId}(ht:P.underlying t=some (.slice e))(hz:P.cellsOf e=z)(rD:0<z)
  (elem:(oX w).isSome=true→∀ eP cs y,DataW.trod enc P w base (fun _=>true) held eP e cs=some y→(∀v∈cs,okV w v=true)∧∃ x,R (wh w) (cs.map (trV w)) x)
  {eP:Nat} {cs:List Value} {y:DataW H×List MemPlace} (h:DataW.trod enc P w base (fun _=>true) held eP t cs=some y) (zv:∀ a len cap,cs=[.slice (some a) len cap]→(oX w).isSome=true):
  ∃v,cs=[v]∧okV w v=true∧∃ l,SL R z (wh w) (trV w v) l:=by
 rcases DataW.trod_slice ht h with⟨rfl,_⟩|⟨a,len,cap,R7,rest,n,_,rfl,_,hb,hl,hm,cg,uT,zw,_⟩
 ·exact⟨_,rfl,rfl,[],SL.nil R z 0⟩
 have gV:=zv a len cap rfl
 obtain⟨gi,Cf⟩:=zw rfl
 rw[hz]at uT Cf
 have each:∀ i,i<cap→∃ cs,w.cells? base (a.add (i*z)) z=some cs∧(∀v∈cs,okV w v=true)∧∃ x,R (wh w) (cs.map (trV w)) x:=by
  intro i hi
  have:∃ y,(w.cells? base (a.add (i*z)) z).bind (DataW.trod enc P w base (fun _=>true) held n e)=some y:=by
   by_cases tu:i<len
   ·rw[uT i tu]
    exact⟨R7[i],wj (by omega)⟩
   ·have:=Cf (i-len) (by omega)
    rw[show len+(i-len)=i by omega]at this
    rw[this]
    exact⟨rest[i-len],wj (by omega)⟩
  obtain⟨y,hy⟩:=this
  simp only[we]at hy
  obtain⟨cs,h1,h2⟩:=hy
  exact⟨cs,h1,elem gV n cs y h2⟩
 by_cases hc:cap=0
 ·subst hc
  have iq:len=0:=by omega
  subst iq
  refine⟨_,rfl,by simp[okV,gV],[],?_⟩
  simp only[trV]
  cases rB w a with
  |true=>exact⟨_,0,rfl,⟨wy _,by simp⟩,fun i x hi=>by simp at hi⟩
  |false=>exact⟨_,0,rfl,⟨wy _,by simp⟩,fun i x hi=>by simp at hi⟩
 have kS:∀ k,k<cap*z→∃ u,w.cell? (a.add k)=some u∧okV w u=true:=by
  intro k hk
  obtain⟨cs,h1,h2,_⟩:=each (k/z) ((Nat.div_lt_iff_lt_mul rD).2 hk)
  obtain⟨h3,h4⟩:=KM h1
  have h5:=h4 (k%z) (Nat.mod_lt _ rD)
  have h6:(a.add (k/z*z)).add (k%z)=a.add k:=by
   rw[add_add,show k/z*z+k%z=k from by rw[wcG];exact Nat.div_add_mod k z]
  rw[h6]at h5
  have h7:k%z<cs.length:=by rw[h3];exact Nat.mod_lt _ rD
  rw[wj h7]at h5
  exact⟨_,h5,h2 _ (wam h7)⟩
 obtain⟨u0,R8,_⟩:=kS 0 (Nat.mul_pos (by omega) rD)
 obtain⟨Ck,C,el,fr,hC,R9⟩:=KP R8
 have Ck:a.spot=none:=by simpa[Addr.add]using Ck
 have gU:iY w a.block=true:=by
  unfold iY
  rw[show w.heap[a.block]? =some (.cells C el fr)from hC]
 have lK:roomAt w a.block=C.size:=by
  unfold roomAt
  rw[show w.heap[a.block]? =some (.cells C el fr)from hC]
 have cn:∀ k,k<cap*z→∃ u,C[a.off+k]? =some u∧okV w u=true:=by
  intro k hk
  obtain⟨u,h1,h2⟩:=kS k hk
  obtain⟨_,C',e',bq,E7,h3⟩:=KP h1
  have h4:(a.add k).block=a.block:=KN a k
  rw[KO]at h3
  rw[h4,show w.heap[a.block]? =some (.cells C el fr)from hC]at E7
  simp only[wi,Obj.cells.injEq]at E7
  obtain⟨rfl,_,_⟩:=E7
  exact⟨u,h3,h2⟩
 have Sa:a.off<C.size:=by
  have:C[a.off+0]? =some u0:=R9
  simpa using(w0.1 this).1
 have rE:rB w a=true:=by
  unfold rB
  rw[Ck,gU,lK,wP (waz Sa)]
  rfl
 have Cl:a.off+cap*z≤C.size:=by
  obtain⟨u,h1,_⟩:=cn (cap*z-1) (by have:=Nat.mul_pos (show 0<cap by omega) rD;omega)
  have:=(w0.1 h1).1
  have:=Nat.mul_pos (show 0<cap by omega) rD
  omega
 have aG:∀ k,k<cap*z→(rowAt w a.block a.off)[k]? =(C[a.off+k]?).map (trV w):=by
  intro k hk
  rw[KL w (show w.heap[a.block]? =some (.cells C el fr)from hC),war]
  rw[KK (p:=okV w) (C.toList.drop a.off) (cap*z) (fun i u hi hu=>?_) (by simp;omega) k hk]
  ·congr 1
   rw[wae]
   simp
  ·rw[wae]at hu
   obtain⟨u',h1,h2⟩:=cn i hi
   have:C[a.off+i]? =some u:=by simpa using hu
   rw[h1]at this
   simp only[wi]at this
   rw[←this];exact h2
 have zhY:cap*z≤(rowAt w a.block a.off).length:=by
  have hp:=Nat.mul_pos (show 0<cap by omega) rD
  have h1:=aG (cap*z-1) (by omega)
  obtain⟨u,h2,_⟩:=cn (cap*z-1) (by omega)
  rw[h2]at h1
  have:=(wD.1 h1).1
  omega
 have hex:∀ i,∃x:Option α,i<cap→∃ x',x=some x'∧∃ cs,w.cells? base (a.add (i*z)) z=some cs∧R (wh w) (cs.map (trV w)) x':=by
  intro i
  by_cases hi:i<cap
  ·obtain⟨cs,h1,_,x,hx⟩:=each i hi
   exact⟨some x,fun _=>⟨x,rfl,cs,h1,hx⟩⟩
  ·exact⟨none,fun h=>absurd h hi⟩
 obtain⟨f,hf⟩:=Classical.skolem.1 hex
 have Sb:∀ n,n≤cap→∃ l:List α,l.length=n∧∀ i x,l[i]? =some x→f i=some x:=by
  intro n
  induction n with
  |zero=>intro _;exact⟨[],rfl,fun i x h=>by simp at h⟩
  |succ n ih=>
   intro hn
   obtain⟨l,zx,mJ⟩:=ih (by omega)
   obtain⟨x',cI,_⟩:=hf n (by omega)
   refine⟨l++[x'],by simp[zx],fun i x hi=>?_⟩
   by_cases hlt:i<l.length
   ·rw[waf hlt]at hi;exact mJ i x hi
   ·have:i=l.length:=by
     have:=(wD.1 hi).1
     simp at this;omega
    subst this
    simp at hi
    subst hi
    rw[zx];exact cI
 obtain⟨l,zx,mJ⟩:=Sb len hl
 have cp:len≤9223372036854775807:=by unfold maxLen at hm;omega
 refine⟨_,rfl,by simp[okV,rE],l,?_⟩
 simp only[trV,rE,wai]
 refine⟨_,cap,by rw[zx],⟨by omega,by omega⟩,fun i x hi=>?_⟩
 have tu:i<len:=by rw[←zx];exact(wD.1 hi).1
 obtain⟨x',cI,cs,h1,h2⟩:=hf i (by omega)
 have:=mJ i x hi
 rw[cI]at this
 simp only[wi]at this
 subst this
 obtain⟨h3,h4⟩:=KM h1
 refine⟨_,0,_,none,true,cs.map (trV w),rfl,wbf (Cj w gU (by omega)),Ku w gU (by omega),?_,h2⟩
 have hiz:i*z+z≤cap*z:=by
  have:=waQ z (show i+1≤cap by omega)
  rw[waW,wbU]at this
  exact this
 rw[dB,wF (by omega)]
 congr 1
 refine waR fun k=>?_
 rw[wab]
 by_cases hk:k<z
 ·rw[wF hk,wae,wau,aG _ (by omega),war]
  congr 1
  have h5:=h4 k hk
  rw[←h5]
  rw[add_add]
  unfold World.cell?
  rw[KN,KO,R5 Ck,show w.heap[a.block]? =some (.cells C el fr)from hC]
  simp
 ·rw[wI hk,wak (by simp[h3];omega)]
end
section
variable{H:Type}{enc:TypeId×Value→H}{P:Program}{w:World}{base:Nat}{held:Bool}
def zy{α:Type}(enc:TypeId×Value→H)(P:Program)(w:World)(base:Nat)(held:Bool)(t:TypeId)(R:Heap→List Value→α→Prop):Prop:=
 ∀eP cs y,DataW.trod enc P w base (fun _=>true) held eP t cs=some y→(∀v∈cs,okV w v=true)∧∃ x,R (wh w) (cs.map (trV w)) x
theorem KQ{t:TypeId}{fs:Array Field}(ht:P.underlying t=some (.struct fs)){eP:Nat}{cs:List Value}{y:DataW H×List MemPlace}(h:DataW.trod enc P w base (fun _=>true) held eP t cs=some y):
  cs.length=P.cellsOf t∧∃ n,∀(i:Nat) (f:Field),fs.toList[i]? =some f→∃ z,DataW.trod enc P w base (fun _=>true) held n f.type ((cs.drop f.offset).take (P.cellsOf f.type))=some z:=by
 obtain⟨xs,n,_,_,hl,hx,hf⟩:=DataW.trod_struct ht h
 refine⟨hl,n,fun i f hi=>?_⟩
 have hi:fs[i]? =some f:=by simpa using hi
 have:=hf i f hi
 have eh:=(w0.1 hi).1
 exact⟨xs[i]'(by omega),by rw[this,wj]⟩
theorem Sc{r:Reach}{a:Addr}{e:TypeId}{n:Nat}(h:w.has P r base a e n):(oX w).isSome=true:=by
 obtain⟨_,_,row,cells,h1,_⟩:=h
 refine R0 w (b:=a.block) ?_
 unfold World.shape? at h1
 unfold iY
 split at h1
 ·rename_i hc;rw[hc]
 ·cases h1
theorem Cm{r:Reach}{t e:TypeId}(ht:P.underlying t=some (.slice e)){a:Addr}{len cap:Nat}(h:Cell.okWide P w r base t (.slice (some a) len cap)):(oX w).isSome=true:=by
 unfold Cell.okWide at h
 rw[ht]at h
 unfold Cell.ok at h
 rw[ht]at h
 exact Sc h.2.2
theorem Cn{v:Value}(h:okV w v=true):∀ a l c,trV w v= .slice a l c→a=none∨∃ r cells g t,a=some ⟨r,0,none⟩∧r<(wh w).next∧(wh w).objs.get r=some (.row cells g t):=by
 intro a l c e
 match v,h,e with
 | .slice none l' c',_,e=>
   simp only[trV,waq]at e
   exact .inl e.1.symm
 | .slice (some b) l' c',h,e=>
   simp only[trV]at e
   cases hp:rB w b with
   |true=>
    obtain⟨h1,h2,h3⟩:=Kv w hp
    rw[hp]at e
    simp only[wai,waq]at e
    exact .inr ⟨_,_,_,_,e.1.symm,wbf (Cj w h2 h3),Ku w h2 h3⟩
   |false=>
    rw[hp]at e
    simp only[wS,waq]at e
    exact .inr ⟨_,_,_,_,e.1.symm,wcd _,zu w⟩
end
def Sd:Option IntKind→Value→Prop
 |some k,v=>∃ n,v= .int k n
 |none,v=>∃ b,v= .bool b
def rowK:List (Option IntKind)→List Value→Prop
 |[],[]=>True
 |k::ks,v::cs=>Sd k v∧rowK ks cs
 |_,_=>False
theorem E8:∀ {a b:List (Option IntKind)} {cs ds:List Value},rowK a cs→rowK b ds→rowK (a++b) (cs++ds)
 |[],_,[],_,_,h=>h
 |_::_,_,_::_,_,h,h'=>⟨h.1,E8 h.2 h'⟩
theorem KR{w:World}:∀ {ks:List (Option IntKind)} {cs:List Value},rowK ks cs→(∀v∈cs,okV w v=true)∧cs.map (trV w)=cs
 |[],[],_=>⟨fun v hv=>(by cases hv),rfl⟩
 |k::ks,v::cs,h=>by
  obtain⟨h1,h2⟩:=KR (w:=w) h.2
  have hv:okV w v=true∧trV w v=v:=by
   cases k with
   |none=>obtain⟨b,rfl⟩:=h.1;exact⟨rfl,rfl⟩
   |some k=>obtain⟨n,rfl⟩:=h.1;exact⟨rfl,rfl⟩
  refine⟨fun u hu=>?_,by rw[wbk,hv.2,h2]⟩
  rcases wad.1 hu with rfl|hu
  ·exact hv.1
  ·exact h1 u hu
def flatFs(rec:TypeId→Option (List (Option IntKind)))(P:Program):Nat→List Field→Option (List (Option IntKind))
 |_,[]=>some []
 |o,f::l=>if f.offset=o then(rec f.type).bind fun ks=>if ks.length=P.cellsOf f.type then(flatFs rec P (o+ks.length) l).bind fun r=>some (ks++r)else none else none
def flatEs(ks:List (Option IntKind)):Nat→List (Option IntKind)
 |0=>[]
 |n+1=>flatEs ks n++ks
def flatK(P:Program):Nat→TypeId→Option (List (Option IntKind))
 |0,_=>none
 |n+1,t=>
  match P.underlying t with
  |some .bool=>some [none]
  |some (.int k)=>some [some k]
  |some (.struct fs)=>(flatFs (flatK P n) P 0 fs.toList).bind fun ks=>if ks.length=P.cellsOf t then some ks else none
  |some (.array m e)=>(flatK P n e).bind fun ks=>if ks.length=P.cellsOf e∧m*ks.length=P.cellsOf t then some (flatEs ks m)else none
  |_=>none
theorem KS{rec:TypeId→Option (List (Option IntKind))}{P:Program}{cs:List Value}:∀ (l:List Field) (o:Nat) (ks:List (Option IntKind)),flatFs rec P o l=some ks→
  (∀f∈l,∀uU,rec f.type=some uU→rowK uU ((cs.drop f.offset).take (P.cellsOf f.type)))→rowK ks ((cs.drop o).take ks.length)
 |[],o,ks,h,_=>by
  simp only[flatFs,wi]at h
  subst h
  simp[rowK]
 |f::l,o,ks,h,hr=>by
  unfold flatFs at h
  split at h
  ·rename_i ho
   simp only[we]at h
   obtain⟨uV,h1,h2⟩:=h
   split at h2
   ·rename_i hl
    simp only[we,wi]at h2
    obtain⟨r,h3,rfl⟩:=h2
    have a:=hr f (by simp) uV h1
    rw[ho,←hl]at a
    have b:=KS l _ r h3 (fun f hf=>hr f (by simp[hf]))
    have:=E8 a b
    rw[wN,List.take_add,wbZ]
    exact this
   ·cases h2
  ·cases h
theorem zz{H:Type}{enc:TypeId×Value→H}{P:Program}{w:World}{base:Nat}{sp:Nat→Bool}{held:Bool}:∀ (n:Nat) (t:TypeId) (ks:List (Option IntKind)),flatK P n t=some ks→
  ∀eP cs y,DataW.trod enc P w base sp held eP t cs=some y→rowK ks cs
 |0,_,_,h,_,_,_,_=>by cases h
 |n+1,t,ks,h,eP,cs,y,hd=>by
  unfold flatK at h
  split at h
  ·rename_i ht
   simp only[wi]at h
   subst h
   obtain⟨b,rfl,_⟩:=DataW.trod_bool ht hd
   exact⟨⟨b,rfl⟩,trivial⟩
  ·rename_i k ht
   simp only[wi]at h
   subst h
   obtain⟨b,rfl,_⟩:=wcB ht hd
   exact⟨⟨b,rfl⟩,trivial⟩
  ·rename_i fs ht
   simp only[we]at h
   obtain⟨uU,h1,h2⟩:=h
   split at h2
   ·rename_i hl
    simp only[wi]at h2
    subst h2
    obtain⟨xs,m,_,_,cg,hx,hf⟩:=DataW.trod_struct ht hd
    have:=KS (cs:=cs) fs.toList 0 uU h1 (fun f Se uV hk=>by
     obtain⟨i,hi,rfl⟩:=List.getElem_of_mem Se
     have eh:i<fs.size:=by simpa using hi
     have h5:=hf i (fs[i]) (by simp[eh])
     have h6:xs[i]? =some (xs[i]'(by omega)):=wj _
     rw[h6]at h5
     exact zz n _ uV hk _ _ _ h5)
    rw[waZ,wZ (by omega)]at this
    exact this
   ·cases h2
  ·rename_i m e ht
   simp only[we]at h
   obtain⟨uV,h1,h2⟩:=h
   split at h2
   ·rename_i hl
    simp only[wi]at h2
    subst h2
    cases eP with
    |zero=>simp[DataW.trod]at hd
    |succ eP=>
     unfold DataW.trod at hd
     rw[ht]at hd
     simp only at hd
     split at hd
     ·rename_i cg
      simp only[wa6]at hd
      obtain⟨xs,hx,_⟩:=hd
      have key:∀ k,k≤m→rowK (flatEs uV k) (cs.take (k*uV.length)):=by
       intro k
       induction k with
       |zero=>intro _;simp[flatEs,rowK]
       |succ k ih=>
        intro hk
        have h5:=mapM_some_get hx k k (by rw[wbC (by omega)])
        have h6:xs[k]? =some (xs[k]'(by have:=mapM_some_length hx;simp at this;omega)):=wj _
        rw[h6]at h5
        have h7:=zz n e uV h1 _ _ _ h5
        rw[←hl.1]at h7
        have:=E8 (ih (by omega)) h7
        rw[flatEs,waW,wbU,List.take_add]
        exact this
      have:=key m (wy _)
      rw[hl.2,wZ (by omega)]at this
      exact this
     ·cases hd
   ·cases h2
  ·cases h
section
variable{H:Type}{enc:TypeId×Value→H}{P:Program}{w:World}{base:Nat}{held:Bool}
def Sf(ks:List (Option IntKind)):Heap→List Value→List Value→Prop:=fun _ part x=>part=x∧rowK ks x
theorem KT{n:Nat}{t:TypeId}{ks:List (Option IntKind)}(h:flatK P n t=some ks):zy enc P w base held t (Sf ks):=by
 intro eP cs y hd
 have hk:=zz n t ks h eP cs y hd
 obtain⟨h1,h2⟩:=KR (w:=w) hk
 exact⟨h1,cs,h2,hk⟩
theorem Co{α:Type}{R:Heap→List Value→α→Prop}{z:Nat}{t e:TypeId}(ht:P.underlying t=some (.slice e))(hz:P.cellsOf e=z)(rD:0<z)(he:(oX w).isSome=true→zy enc P w base held e R)
  {eP:Nat} {v:Value} {y:DataW H×List MemPlace} (h:DataW.trod enc P w base (fun _=>true) held eP t [v]=some y) (hb:∀ a l c,v= .slice (some a) l c→(oX w).isSome=true):okV w v=true∧∃ l,SL R z (wh w) (trV w v) l:=by
 obtain⟨v',e,h1,h2⟩:=SL.R6 (R:=R) (z:=z) ht hz rD he h (fun a l c e=>hb a l c (by simpa using e))
 simp only[wbQ,wcl]at e
 subst e
 exact⟨h1,h2⟩
end
end Go.AM
