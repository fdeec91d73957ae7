/-
  Walks over letters of the functions that the law reaches; written small by a program of mine.
-/
import Derived.Test.YtjgppeeplkidpaaGreatGYG
import Derived.Test.YtjgppeeplkidpaaGreatGC3
import Derived.Test.YtjgppeeplkidpaaGreatGC10
import Derived.Test.YtjgppeeplkidpaaGreatGC17
set_option linter.unusedVariables false
set_option linter.unusedSectionVars false
namespace Go.AM
attribute [local instance] fnMaps
open Go Go.Proofs
set_option maxRecDepth 100000
theorem zbI{h:Hd}(h1:0≤h.kind∧h.kind≤31∧0≤h.fields∧h.fields≤4096∧0≤h.bC∧h.bC≤4096∧0≤h.fu∧h.fu≤1048576):gW h=true:=by
 refine waC.2 fun j hj=>?_
 have hj:j<5:=by simpa using hj
 have hm:0≤il h∧il h≤1:=by unfold il;split<;>omega
 have key:∀ j,0≤dp h j∧dp h j≤jO j→fY h j=true:=fun j hh=>by
  unfold fY
  rw[wx (by omega),wx (by omega)]
  rfl
 match j,hj with
 |0,_=>exact key 0 hm
 |1,_=>exact key 1 ⟨h1.1,h1.2.1⟩
 |2,_=>exact key 2 ⟨h1.2.2.1,h1.2.2.2.1⟩
 |3,_=>exact key 3 ⟨h1.2.2.2.2.1,h1.2.2.2.2.2.1⟩
 |4,_=>exact key 4 h1.2.2.2.2.2.2
theorem zbJ{h:Hd}(hk:gW h=true):(wH h 5:Int)=3+il h*4+h.kind*8+h.fields*256+h.bC*16777216+h.fu*1099511627776:=by
 have h1:=ku hk
 have hm:0≤il h∧il h≤1:=by unfold il;split<;>omega
 show((3+(il h).toNat*2^2+h.kind.toNat*2^3+h.fields.toNat*2^8+h.bC.toNat*2^24+h.fu.toNat*2^40:Nat):Int)=_
 omega
theorem zbK{h:Hd}(hk:gW h=true):ct h=1+h.fields+h.bC:=by rw[ct,wF hk]
structure Obj(ws:List Nat)(p:Int)(h:Hd)(fw rw:Nat→Nat):Prop where
 p0:0≤p
 fits:p+ct h≤ws.length
 ok:gW h=true
 hd:da ws p=wH h 5
 fl:∀ k:Nat,(k:Int)<h.fields→da ws (p+1+k)=fw k
 rl:∀ k:Nat,(k:Int)<h.bC→da ws (p+1+h.fields+k)=rw k
section
variable{ws:List Nat}{p:Int}{h:Hd}{fw rw:Nat→Nat}
end
structure im(b g:Nat)(H H':Heap):Prop where
 lo:H'.lo=H.lo
 ag:H.next≤H'.next
 below:∀ x,x<b→H'.objs.get x=H.objs.get x∧H'.grps.get x=H.grps.get x
 objs:∀ x o,x<H.next→H.objs.get x=some o→(∀c z t,o≠ .row c (some (g,z)) t)→H'.objs.get x=some o
 grps:∀ y,y<H.next→y≠g→H'.grps.get y=H.grps.get y
def OS(b z:Nat)(H:Heap)(v:Value)(n:Nat)(cs:List Value):Option Nat→Prop
 |none=>v= .slice none 0 0∧n=0∧cs=[]
 |some g=>∃ r cap full aT,v= .slice (some ⟨r,0,none⟩) n cap∧(n≤cap∧cap≤1000000000)∧full.length=cap*z∧full.take (n*z)=cs∧H.objs.get r=some (.row full (some (g,z)) true)∧H.grps.get g=some aT∧
   b≤r∧r<H.next∧b≤g∧g<H.next∧(∀x∈aT,b≤x∧x<H.next∧∃ c z t,H.objs.get x=some (.row c (some (g,z)) t))∧r∉aT
section
variable{b z n:Nat}{H H':Heap}{v:Value}{cs:List Value}{go:Option Nat}
theorem OS.nil(b z:Nat)(H:Heap):OS b z H (.slice none 0 0) 0 [] none:=⟨rfl,rfl,rfl⟩
theorem OS.lt(h:OS b z H v n cs go):∀ g,go=some g→b≤g∧g<H.next:=by
 rintro g rfl
 obtain⟨r,cap,full,aT,_,_,_,_,_,_,_,_,h1,h2,_⟩:=h
 exact⟨h1,h2⟩
theorem OS.cJ(h:OS b z H v n cs go)(hn:H.next≤H'.next)(ho:∀ x c z t g,go=some g→b≤x→x<H.next→H.objs.get x=some (.row c (some (g,z)) t)→H'.objs.get x=some (.row c (some (g,z)) t))(hg:∀ g,go=some g→H'.grps.get g=H.grps.get g):OS b z H' v n cs go:=by
 cases go with
 |none=>exact h
 |some g=>
  obtain⟨r,cap,full,aT,h1,h2,h3,h4,h5,h6,h7,h8,h9,aZ,aY,bH⟩:=h
  refine⟨r,cap,full,aT,h1,h2,h3,h4,ho r _ _ _ g rfl h7 h8 h5,by rw[hg g rfl,h6],h7,by omega,h9,by omega,fun x hx=>?_,bH⟩
  obtain⟨q1,q2,c,z',t,q3⟩:=aY x hx
  exact⟨q1,by omega,c,z',t,ho x c z' t g rfl q1 q2 q3⟩
theorem OS.same(h:OS b z H v n cs go)(s:aq H H'):OS b z H' v n cs go:=
 h.cJ s.ag (fun x c z t g _ _ hx ho=>s.keeps hx ho) fun g e=>s.grps g (h.lt g e).2
theorem OS.ko(h:OS b z H v n cs go)(s:Ko H H'):OS b z H' v n cs go:=
 h.cJ s.ag (fun x c z t g _ _ hx ho=>s.keeps hx ho) fun g e=>s.grps g (h.lt g e).2
theorem OS.fR{g:Nat}(h:OS b z H v n cs go)(e:im b g H H')(hg:go≠some g):OS b z H' v n cs go:=
 h.cJ e.ag (fun x c z t g' e' _ hx ho=>e.objs x _ hx ho fun c' z' t' q=>by
  simp only[AObj.row.injEq,wi,wk]at q
  exact hg (e'.trans (congrArg some q.2.1.1))) fun g' e'=>e.grps g' (h.lt g' e').2 fun q=>hg (e'.trans (congrArg some q))
theorem OS.setRow{p:Nat}{c c':List Value}{t:Bool}(h:OS b z H v n cs go)(hp:H.objs.get p=some (.row c none t)):OS b z (H.setRow p c') v n cs go:=
 h.cJ (wy _) (fun x c z t' g _ _ hx ho=>by
  have:x≠p:=fun e=>by rw[e,hp]at ho;simp at ho
  rw[ay,au this];exact ho) fun g e=>rfl
theorem im.row{g:Nat}(e:im b g H H'){p:Nat}{c:List Value}{t:Bool}(hp:p<H.next)(h:H.objs.get p=some (.row c none t)):H'.objs.get p=some (.row c none t):=
 e.objs p _ hp h fun c' z' t' q=>by simp at q
theorem zbL{z b k:Nat}(h:eu z b k=true):k≤1000000000:=by
 unfold eu at h
 simp only[wA,wcm]at h
 exact wan h.2
theorem O9:∀ (aT:List Nat) (t:Tr AObj) (lo:Nat),(∀x∈aT,lo≤x)→∃ t',tz lo t aT=some t'∧(∀x,x∉aT→t'.get x=t.get x)
 |[],t,lo,_=>⟨t,rfl,fun _ _=>rfl⟩
 |k::l,t,lo,h=>by
  obtain⟨t',h1,h2⟩:=O9 l (t.del k) lo fun x hx=>h x (wM _ hx)
  refine⟨t',?_,fun x hx=>?_⟩
  ·rw[tz,wP (h k (wW ..)),wai]
   exact h1
  ·rw[h2 x fun hh=>hx (wM _ hh),ui _ _ _ fun e=>hx (by rw[e];exact wW ..)]
theorem Pa{r g z o:Nat}{full new:List Value}{aT:List Nat}(hr:H.objs.get r=some (.row full (some (g,z)) true))(hg:H.grps.get g=some aT)(an:H.lo≤r)(hold:∀ x∈aT,H.lo≤x)(hc:new.all isCell=true)(hf:o+new.length≤full.length):
  ∃t':Tr AObj,H.write r o new=some {objs:=t'.set r (.row (over new o full) (some (g,z)) true),grps:=H.grps.set g [],next:=H.next,lo:=H.lo}∧(∀x,x∉aT→t'.get x=H.objs.get x):=by
 obtain⟨t',h1,h2⟩:=O9 aT H.objs H.lo hold
 refine⟨t',?_,h2⟩
 simp only[Heap.write,wP an,hc,wa7,Bool.or_self,wS,hr,wP hf,hg,h1,wo,Tr.force_eq]
theorem zb(t:Tr AObj)(k x:Nat)(o:AObj):(t.set k o).get x=if x=k then some o else t.get x:=rfl
theorem zd(t:Tr (List Nat))(k x:Nat)(o:List Nat):(t.set k o).get x=if x=k then some o else t.get x:=rfl
theorem OS.write{g:Nat}{new:List Value}{o:Nat}(h:OS b z H v n cs (some g))(an:H.lo≤b)(hc:new.all isCell=true)(hf:o+new.length≤cs.length):
  ∃r cap H',v= .slice (some ⟨r,0,none⟩) n cap∧H.write r o new=some H'∧OS b z H' v n (over new o cs) (some g)∧im b g H H':=by
 obtain⟨r,cap,full,aT,h1,h2,h3,h4,h5,h6,h7,h8,h9,aZ,aY,bH⟩:=h
 have qB:cs.length≤full.length:=by rw[←h4,wU];omega
 obtain⟨t',q1,q2⟩:=Pa (o:=o) (new:=new) h5 h6 (by omega) (fun x hx=>by have:=(aY x hx).1;omega) hc (by omega)
 refine⟨r,cap,_,h1,q1,⟨r,cap,over new o full,[],h1,h2,?_,?_,?_,?_,h7,h8,h9,aZ,fun x hx=>(by cases hx),by simp⟩,⟨rfl,wy _,fun x hx=>⟨?_,?_⟩,fun x ob hx ho hn=>?_,fun y hy hn=>?_⟩⟩
 ·rw[tA _ _ _ (by omega)]
  simp only[wN,wU,wbe]
  omega
 ·rw[tA _ _ _ (by omega),tA _ _ _ hf,←h4]
  rw[←h4,wU]at hf
  rw[waP,waP,List.take_append,List.take_append,wZ (show(List.take o full).length≤n*z by rw[wU];omega),wU,waS (by omega),
   wZ (show new.length≤n*z-o by omega),wcN,waS (by omega),wcO,show n*z-o-new.length=n*z-(o+new.length) by omega]
 ·show(t'.set r _).get r=_
  rw[zb,wF rfl]
 ·show(H.grps.set g []).get g=_
  rw[zd,wF rfl]
 ·show(t'.set r _).get x=_
  rw[zb,wI (by omega),q2 x fun hh=>by have:=(aY x hh).1;omega]
 ·show(H.grps.set g []).get x=_
  rw[zd,wI (by omega)]
 ·show(t'.set r _).get x=_
  have qZ:x≠r:=fun e=>by
   subst e
   rw[h5]at ho
   exact hn _ _ _ (waH ho).symm
  rw[zb,wI qZ,q2 x fun hh=>by
   obtain⟨_,_,c,z',t,q⟩:=aY x hh
   rw[q]at ho
   exact hn _ _ _ (waH ho).symm]
  exact ho
 ·show(H.grps.set g []).get y=_
  rw[zd,wI hn]
theorem OS.app{bytes:Nat}{part:List Value}(h:OS b z H v n cs go)(hb:b≤H.next)(an:H.lo≤b)(hp:part.length=z)(hc:part.all isCell=true)(bf:eu z bytes (n+1)=true):
  ∃v' H' g',appendT z bytes H v 1 part=some (v',H')∧OS b z H' v' (n+1) (cs++part) (some g')∧im b g' H H'∧(go=some g'∨go=none∧g'=H.next):=by
 have DY:(n+1)*z=n*z+z:=by rw[waW];omega
 cases go with
 |none=>
  obtain⟨rfl,rfl,rfl⟩:=h
  have e0:Nat.ble (0+1) 0=false:=rfl
  refine⟨.slice (some ⟨H.next,0,none⟩) 1 1,H.dd z part,H.next,by simp only[appendT,e0,bf,wS,wau];rfl,⟨H.next,1,part,[],rfl,⟨wy _,by decide⟩,by omega,by rw[DY];simp[wZ,hp],by rw[jj,cr rfl];rfl,by rw[lz,cr rfl];rfl,hb,by rw[gH];omega,hb,by rw[gH];omega,fun x hx=>(by cases hx),by simp⟩,
   ⟨Bs z part,by rw[gH];omega,fun x hx=>⟨by rw[jj,au (by omega)];rfl,by rw[lz,au (by omega)];rfl⟩,fun x o hx ho _=>by rw[jj,au (by omega)];exact ho,fun y hy _=>by rw[lz,au (by omega)];rfl⟩,.inr ⟨rfl,rfl⟩⟩
 |some g=>
  obtain⟨r,cap,full,aT,h1,h2,h3,h4,h5,h6,h7,h8,h9,aZ,aY,bH⟩:=h
  subst h1
  by_cases D2:n=cap
  ·subst D2
   have zbM:full=cs:=by rw[←h4,wZ (by omega)]
   subst zbM
   have uj:Nat.ble (n+1) n=false:=waK.2 fun hh=>by have:=wan hh;omega
   have aR:cut full 0 (n*z)=some full:=by rw[du,wF (by omega),waZ,wZ (by omega)]
   have e1:Nat.beq (0+n*z) full.length=true:=by rw[h3,wau];exact wbc _
   have e2:Nat.ble H.lo r=true:=wP (by omega)
   have e3:Nat.beq z z=true:=wbc _
   refine⟨.slice (some ⟨H.next,0,none⟩) (n+1) (n+1),H.mU r full g z aT (full++part),g,by simp only[appendT,uj,bf,wS,h5,e1,e2,e3,hc,wb8,wai,aR,wo,HA h6];rfl,
    ⟨H.next,n+1,full++part,r::aT,rfl,⟨wy _,zbL bf⟩,by rw[wN];omega,by rw[wZ (by rw[wN];omega)],by rw[pG,cr rfl];rfl,by rw[vH,cr rfl];rfl,hb,wcd _,h9,wbf aZ,fun x hx=>?_,fun hx=>?_⟩,
    ⟨rfl,Nat.le_succ _,fun x hx=>⟨?_,?_⟩,fun x o hx ho hn=>?_,fun y hy hn=>?_⟩,.inl rfl⟩
   ·rcases wad.1 hx with rfl|hx
    ·exact⟨h7,wbf h8,full,z,false,by rw[pG,au (by omega),cr rfl];rfl⟩
    ·obtain⟨q1,q2,c,z',t,q3⟩:=aY x hx
     have qZ:x≠r:=fun e=>bH (by rw[←e];exact hx)
     exact⟨q1,wbf q2,c,z',t,by rw[pG,au (by omega),au qZ];exact q3⟩
   ·rcases wad.1 hx with e|hx
    ·omega
    ·have:=(aY _ hx).2.1;omega
   ·rw[pG,au (by omega),au (by omega)];rfl
   ·rw[vH,au (by omega)];rfl
   ·have qZ:x≠r:=fun e=>by
     subst e
     rw[h5]at ho
     exact hn _ _ _ (waH ho).symm
    rw[pG,au (by omega),au qZ];exact ho
   ·rw[vH,au hn];rfl
  ·have hlt:n+1≤cap:=by omega
   have EL:=waQ z hlt
   obtain⟨t',q1,q2⟩:=Pa (o:=0+n*z) (new:=part) h5 h6 (by omega) (fun x hx=>by have:=(aY x hx).1;omega) hc (by omega)
   refine⟨.slice (some ⟨r,0,none⟩) (n+1) cap,{objs:=t'.set r (.row (over part (0+n*z) full) (some (g,z)) true),grps:=H.grps.set g [],next:=H.next,lo:=H.lo},g,by simp only[appendT,wP hlt,wai,show Nat.beq 1 0=false from rfl,wS,q1,wo],
    ⟨r,cap,over part (0+n*z) full,[],rfl,⟨hlt,h2.2⟩,?_,?_,?_,?_,h7,h8,h9,aZ,fun x hx=>(by cases hx),by simp⟩,⟨rfl,wy _,fun x hx=>⟨?_,?_⟩,fun x o hx ho hn=>?_,fun y hy hn=>?_⟩,.inl rfl⟩
   ·rw[tA _ _ _ (by omega)]
    simp only[wN,wU,wbe]
    omega
   ·rw[tA _ _ _ (by omega),wau,←h4,waP,←waP,List.take_left' (by rw[wN,wU];omega)]
   ·show(t'.set r _).get r=_
    rw[zb,wF rfl]
   ·show(H.grps.set g []).get g=_
    rw[zd,wF rfl]
   ·show(t'.set r _).get x=_
    rw[zb,wI (by omega),q2 x fun hh=>by have:=(aY x hh).1;omega]
   ·show(H.grps.set g []).get x=_
    rw[zd,wI (by omega)]
   ·show(t'.set r _).get x=_
    have qZ:x≠r:=fun e=>by
     subst e
     rw[h5]at ho
     exact hn _ _ _ (waH ho).symm
    rw[zb,wI qZ,q2 x fun hh=>by
     obtain⟨_,_,c,z',t,q⟩:=aY x hh
     rw[q]at ho
     exact hn _ _ _ (waH ho).symm]
    exact ho
   ·show(H.grps.set g []).get y=_
    rw[zd,wI hn]
theorem OS.reads{α:Type}{R:Heap→List Value→α→Prop}{l:List α}(h:OS b z H v n cs go)(hl:l.length=n)(bj:n≤1000000000)(hR:cY R z H cs l):SLr R z H v l:=by
 subst hl
 cases go with
 |none=>
  obtain⟨rfl,h2,h3⟩:=h
  cases l with
  |nil=>exact SLr.nil
  |cons x l=>simp at h2
 |some g=>
  obtain⟨r,cap,full,aT,rfl,h2,h3,h4,h5,h6,h7,h8,h9,aZ,aY,bH⟩:=h
  refine⟨SL.ofRow h8 h5 h2.1 (by omega) fun i x hi=>?_,fun a m c e=>?_⟩
  ·obtain⟨part,q1,q2⟩:=hR.2 i x hi
   have nJ:=(wD.1 hi).1
   have EL:=waQ z (show i+1≤l.length from nJ)
   rw[waW]at EL
   have zbN:=waQ z h2.1
   refine⟨part,?_,q2⟩
   rw[←q1,←h4,HC (by omega) (by omega)]
  ·simp only[waq]at e
   obtain⟨rfl,_,_⟩:=e
   exact .inr ⟨r,full,_,_,rfl,h8,h5⟩
end
set_option maxHeartbeats 1000000
set_option linter.unusedSimpArgs false
theorem zfH(h:Hd):gW h=decide (0≤h.kind∧h.kind≤31∧0≤h.fields∧h.fields≤4096∧0≤h.bC∧h.bC≤4096∧0≤h.fu∧h.fu≤1048576):=by
 by_cases hc:0≤h.kind∧h.kind≤31∧0≤h.fields∧h.fields≤4096∧0≤h.bC∧h.bC≤4096∧0≤h.fu∧h.fu≤1048576
 ·rw[wz hc,zbI hc]
 ·rw[wx hc]
  cases hk:gW h with
  |false=>rfl
  |true=>exact absurd (ku hk) hc
theorem zfI{w:Nat}(hw:w<2^64):kp w=(decide (w%4=3)&&gW (fq w)):=by
 unfold kp
 cases hk:gW (fq w)with
 |false=>simp
 |true=>
  have hv:=zbJ hk
  have hm:il (fq w)=((cB w 2 1:Nat):Int):=by
   unfold il fq
   simp only[wT]
   have:=qY w 2 1
   split<;>omega
  rw[hm]at hv
  have e:(wH (fq w) 5:Int)=3+((cB w 2 1:Nat):Int)*4+((cB w 3 5:Nat):Int)*8+((cB w 8 16:Nat):Int)*256+((cB w 24 16:Nat):Int)*16777216+((cB w 40 24:Nat):Int)*1099511627776:=hv
  unfold cB at e
  simp only[wah,wcm]
  by_cases h3:w%4=3
  ·rw[wz h3,wz (by omega)]
  ·rw[wx h3,wx (by omega)]
theorem IP(H:Heap)(an:H.lo≤H.next)(h:Hd):af E (aK 128) [bO h] H fun r H'=>r= .bool (gW h)∧aq H H':=by
 rw[zfH]
 refine aV Tryz.f128 ?_
 simp only[Tryz.f128]
 simp only[bO]
 repeat'(first|(apply ak<;>intro)|apply bw|simp(disch:=omega)only[↓aa,ab,simprocAttr,sa, *])
 all_goals first|exact aA|((with_reducible show _∧_);exact⟨eZ (by simp only[wT,wG,wbh,wa5,];first|omega|(simp[*]<;>omega)),aA⟩)
theorem rj(H:Heap)(an:H.lo≤H.next)(h:Hd):af E (aK 90) [bO h] H fun r H'=>r= .int .i64 (ct h)∧aq H H':=by
 refine aV Tryz.f90 ?_
 simp only[Tryz.f90]
 simp only[bO]
 cases hk:gW h with
 |true=>
  have:=ku hk
  have hz:=zbK hk
  repeat'(first|((with_reducible show af _ _ _ _ _);refine ao H (IP _ ah h) ?_;intro H2 k2 l2 n2 g2 q2;try simp(disch:=omega)only[sm,sl]at l2 n2 g2 q2)|simp(disch:=omega)only[↓aa,ab,simprocAttr,sa, *])
  all_goals exact xW
 |false=>
  have hz:ct h=0:=by rw[ct,hk];rfl
  repeat'(first|((with_reducible show af _ _ _ _ _);refine ao H (IP _ ah h) ?_;intro H2 k2 l2 n2 g2 q2;try simp(disch:=omega)only[sm,sl]at l2 n2 g2 q2)|simp(disch:=omega)only[↓aa,ab,simprocAttr,sa, *])
  all_goals exact xW
theorem IQ(H:Heap)(an:H.lo≤H.next)(w:Nat)(hw:w<2^64):af E (aK 109) [.int .u64 w] H fun r H'=>r= .tuple #[bO (if kp w then fq w else gI),.int .i64 (if kp w then 0 else 3)]∧aq H H':=by
 have qA:w<18446744073709551616:=by omega
 have t0:(w:Int).tmod 4=((w%4:Nat):Int):=rfl
 have d1:IntKind.u64.wrap ((w:Int).tdiv 4)=((w/4:Nat):Int):=v9 (n:=w/4) (by omega)
 have d2:(((w/4:Nat):Int)).tmod 2=((cB w 2 1:Nat):Int):=rfl
 have d3:IntKind.u64.wrap ((w:Int).tdiv 8)=((w/8:Nat):Int):=v9 (n:=w/8) (by omega)
 have d4:(((w/8:Nat):Int)).tmod 32=((cB w 3 5:Nat):Int):=rfl
 have d5:IntKind.u64.wrap ((w:Int).tdiv 256)=((w/256:Nat):Int):=v9 (n:=w/256) (by omega)
 have d6:(((w/256:Nat):Int)).tmod 65536=((cB w 8 16:Nat):Int):=rfl
 have d7:IntKind.u64.wrap ((w:Int).tdiv 16777216)=((w/16777216:Nat):Int):=v9 (n:=w/16777216) (by omega)
 have d8:(((w/16777216:Nat):Int)).tmod 65536=((cB w 24 16:Nat):Int):=rfl
 have d9:IntKind.u64.wrap ((w:Int).tdiv 1099511627776)=((cB w 40 24:Nat):Int):=by
  have e:cB w 40 24=w/1099511627776:=by unfold cB;omega
  rw[e]
  exact v9 (n:=w/1099511627776) (by omega)
 have b1:=qY w 3 5
 have b2:=qY w 8 16
 have b3:=qY w 24 16
 have b4:=qY w 40 24
 have he:=zfI hw
 have hd:bO (fq w)= .agg #[.int .i64 ((cB w 3 5:Nat):Int),.int .i64 ((cB w 8 16:Nat):Int),.int .i64 ((cB w 24 16:Nat):Int),.bool (decide (((cB w 2 1:Nat):Int)=1)),.int .i64 ((cB w 40 24:Nat):Int)]:=rfl
 have hq:=fun X hX=>IP X hX (fq w)
 rw[hd]at hq
 refine aV Tryz.f109 ?_
 simp only[Tryz.f109]
 generalize cB w 3 5=g1 at*
 generalize cB w 8 16=g2 at*
 generalize cB w 24 16=g3 at*
 generalize cB w 40 24=g4 at*
 generalize cB w 2 1=g5 at*
 by_cases h3:w%4=3
 ·rw[wz h3,wa9]at he
  cases hk:gW (fq w)with
  |true=>
   rw[hk]at he hq
   rw[he,wF rfl,wF rfl,hd]
   have vg:((w%4:Nat):Int)=3:=by omega
   clear he hd hk
   repeat'(first|((with_reducible show af _ _ _ _ _);refine ao H (hq _ ah) ?_;intro H2 k2 l2 n2 g2 q2;try simp(disch:=omega)only[sm,sl]at l2 n2 g2 q2)|simp(disch:=omega)only[↓aa,ab,simprocAttr,sa,t0,d1,d2,d3,d4,d5,d6,d7,d8,d9,vg, *])
   all_goals exact xW
  |false=>
   rw[hk]at he hq
   rw[he,wI (by simp),wI (by simp)]
   have vg:((w%4:Nat):Int)=3:=by omega
   clear he hd hk
   repeat'(first|((with_reducible show af _ _ _ _ _);refine ao H (hq _ ah) ?_;intro H2 k2 l2 n2 g2 q2;try simp(disch:=omega)only[sm,sl]at l2 n2 g2 q2)|simp(disch:=omega)only[↓aa,ab,simprocAttr,sa,t0,d1,d2,d3,d4,d5,d6,d7,d8,d9,vg, *])
   all_goals(first|(with_reducible exact aA)|((with_reducible show _∧_);exact⟨by first|rfl|(simp[gI,bO, *]<;>omega),aA⟩))
 ·rw[wx h3,wbj]at he
  rw[he,wI (by simp),wI (by simp)]
  clear he hd
  repeat'(first|(apply ak<;>intro)|simp(disch:=omega)only[↓aa,ab,simprocAttr,sa,t0,d1,d2,d3,d4,d5,d6,d7,d8,d9, *])
  all_goals try omega
  all_goals(first|(with_reducible exact aA)|((with_reducible show _∧_);exact⟨by first|rfl|(simp[gI,bO, *]<;>omega),aA⟩))
theorem ER{l:List Value}{o i:Nat}{x:Value}(h:cut l (o+i*1) 1=some [x]):l[o+i]? =some x:=by
 rw[du,waY]at h
 split at h
 ·rename_i hl
  have e:=congrArg (fun t:List Value=>t[0]?) (waH h)
  simp only[wab,wae,wF (show 0<1 by omega),waX,wQ]at e
  exact e
 ·cases h
theorem ri(H:Heap)(an:H.lo≤H.next)(v:Value)(ws:List Nat)(hv:SLr RW 1 H v ws)(hu:∀ w∈ws,w<2^64)(i:Int)(hi: -9223372036854775808≤i∧i≤9223372036854775807)(hl:ws.length≤100000):af E (aK 70) [v,.int .i64 i] H fun r H'=>r= .tuple #[bO (aU ws i),.int .i64 (cy ws i)]∧aq H H':=by
 obtain⟨⟨a,ca,rfl,⟨_,ft⟩,bs⟩, -⟩:=hv
 refine aV Tryz.f70 ?_
 simp only[Tryz.f70]
 by_cases hp:0≤i∧i<ws.length
 ·have hP:lC ws.length i=0:=wF hp
  obtain⟨r,o,cells,gg,tt,part,rfl,hr,aC,aR,rfl⟩:=bs i.toNat ws[i.toNat] (wj (by omega))
  have hw:=hu ws[i.toNat] (wam (by omega))
  have vi:da ws i=ws[i.toNat]:=by unfold da;rw[wav,wj (by omega)];rfl
  rw[←vi]at hw aR
  have hg:=ER aR
  clear aR vi
  cases hH:kp (da ws i)with
  |true=>
   have hz:=yS (h:=fq (da ws i))
   by_cases hs:ws.length-i<ct (fq (da ws i))
   ·have he:cy ws i=2:=by rw[cy,wF hP,hH,wF rfl,wF hs]
    have ha:aU ws i=gI:=by rw[aU,wI (by omega)]
    repeat'(first|(apply ak<;>intro)|apply bw|((with_reducible show af _ _ _ _ _);(first|refine ao H (IQ _ ah _ hw) ?_|refine ao H (rj _ ah (fq (da ws i))) ?_);intro H2 k2 l2 n2 g2 q2;try simp(disch:=omega)only[sm,sl]at l2 n2 g2 q2)|simp(disch:=omega)only[↓aa,ab,simprocAttr,sa,bO,wV, *])
    all_goals try omega
    all_goals(first|(with_reducible exact aA)|((with_reducible show _∧_);exact⟨by first|rfl|(simp[gI,bO, *]<;>omega),aA⟩))
   ·have he:cy ws i=0:=by rw[cy,wF hP,hH,wF rfl,wI hs]
    have ha:aU ws i=fq (da ws i):=by rw[aU,wF he]
    repeat'(first|(apply ak<;>intro)|apply bw|((with_reducible show af _ _ _ _ _);(first|refine ao H (IQ _ ah _ hw) ?_|refine ao H (rj _ ah (fq (da ws i))) ?_);intro H2 k2 l2 n2 g2 q2;try simp(disch:=omega)only[sm,sl]at l2 n2 g2 q2)|simp(disch:=omega)only[↓aa,ab,simprocAttr,sa,bO,wV, *])
    all_goals try omega
    all_goals(first|(with_reducible exact aA)|((with_reducible show _∧_);exact⟨by first|rfl|(simp[gI,bO, *]<;>omega),aA⟩))
  |false=>
   have he:cy ws i=3:=by rw[cy,wF hP,hH,wI (by simp)]
   have ha:aU ws i=gI:=by rw[aU,wI (by omega)]
   repeat'(first|(apply ak<;>intro)|apply bw|((with_reducible show af _ _ _ _ _);refine ao H (IQ _ ah _ hw) ?_;intro H2 k2 l2 n2 g2 q2;try simp(disch:=omega)only[sm,sl]at l2 n2 g2 q2)|simp(disch:=omega)only[↓aa,ab,simprocAttr,sa,bO,wV, *])
   all_goals try omega
   all_goals(first|(with_reducible exact aA)|((with_reducible show _∧_);exact⟨by first|rfl|(simp[gI,bO, *]<;>omega),aA⟩))
 ·have hP:lC ws.length i=2:=wI hp
  have he:cy ws i=2:=by rw[cy,wI (by omega)]
  have ha:aU ws i=gI:=by rw[aU,wI (by omega)]
  repeat'(first|(apply ak<;>intro)|apply bw|simp(disch:=omega)only[↓aa,ab,simprocAttr,sa,bO, *])
  all_goals try omega
  all_goals(first|(with_reducible exact aA)|((with_reducible show _∧_);exact⟨by first|rfl|(simp[gI,bO, *]<;>omega),aA⟩))
def re(x y:Span):Bool:=decide (x.ae<y.ae∨x.ae=y.ae∧x.size<y.size)
def mh(x:Span)(out:List Span):Nat→Nat
 |0=>0
 |n+1=>if re x (out.getD n ⟨0,0⟩)then mh x out n else n+1
def gx(out:List Span)(x:Span):List Span:=out.take (mh x out out.length)++x::out.drop (mh x out out.length)
def lE(l:List Span):List Span:=l.foldl gx []
def eG(l:List Span):List Span:=l.flatMap fun x=>if bt x then[⟨x.ae,0⟩,⟨x.ae+x.size,0⟩]else[]
def eI:Option Int→List Span→List Int
 |_,[]=>[]
 |p,x::l=>(if p=some x.ae then[]else[x.ae])++eI (some x.ae) l
def pQ(l:List Span):List Int:=eI none (lE (eG l))
def hasB(x:Span)(a:Int):Bool:=decide (bt x∧x.ae≤a∧a≤x.ae+x.size-1)
def mj(l:List Span)(a:Int):Bool:=l.any (hasB · a)
def kE(out:List Span)(a b:Int):List Span:=match out.getLast? with
 |some y=>if y.ae+y.size=a then out.dropLast++[⟨y.ae,b-y.ae⟩]else out++[⟨a,b-a⟩]
 |none=>out++[⟨a,b-a⟩]
def pieces(all:Span)(l:List Span):List Span→List Int→List Span
 |out,a::b::r=>pieces all l (if hasB all a&& !mj l a then kE out a b else out) (b::r)
 |out,_=>out
def pR(all:Span)(l:List Span):List Span:=pieces all l [] (pQ (all::l))
def uw(e:Int):Int→List Span→Prop
 |_,[]=>True
 |p,x::l=>p≤x.ae∧bt x∧x.ae+x.size≤e∧uw e (x.ae+x.size) l
theorem Pb{all:Span}:∀ {l:List Span} {p:Option Span} {q:Int},fG all p l=true→(∀y,p=some y→q=y.ae+y.size)→(p=none→q=all.ae)→uw (all.ae+all.size) q l
 |[],_,_,_,_,_=>trivial
 |x::l,p,q,h,h1,h2=>by
  rw[vW,wA,wA,wT]at h
  obtain⟨⟨hw,hp⟩,hl⟩:=h
  refine⟨?_,hw.1,hw.2.2.2,Pb hl (fun y e=>by cases e;rfl) (fun e=>by cases e)⟩
  cases p with
  |none=>rw[h2 rfl];exact hw.2.2.1
  |some y=>rw[h1 y rfl];exact wap hp
def pS(e:Int):Int→List Span→List Span
 |p,[]=>if p<e then[⟨p,e-p⟩]else[]
 |p,x::l=>(if p<x.ae then[⟨p,x.ae-p⟩]else[])++pS e (x.ae+x.size) l
theorem IG(all:Span):∀ (l:List Span) (op:Span) (p:Int),0<op.size→p≤op.ae→uw (all.ae+all.size) (op.ae+op.size) l→ng all p (gJ op l)=(if p<op.ae then[⟨p,op.ae-p⟩]else[])++pS (all.ae+all.size) (op.ae+op.size) l
 |[],op,p,h0,hp,_=>by
  rw[gJ,wF h0,ng,wF (show p<op.ae+op.size by omega),ng,pS]
 |s::l,op,p,h0,hp,ho=>by
  obtain⟨o1,o2,o3,o4⟩:=ho
  unfold bt at o2
  rw[gJ]
  by_cases hc:s.ae≤op.ae+op.size
  ·rw[wF ⟨h0,hc⟩,wF (by omega),IG all l ⟨op.ae,s.ae+s.size-op.ae⟩ p (by simp only;omega) hp (by simp only;rw[show op.ae+(s.ae+s.size-op.ae)=s.ae+s.size by omega];exact o4),pS]
   simp only
   rw[wI (show ¬op.ae+op.size<s.ae by omega),wL,show op.ae+(s.ae+s.size-op.ae)=s.ae+s.size by omega]
  ·rw[wI (fun h=>hc h.2),wF h0,ng,wF (show p<op.ae+op.size by omega),IG all l s _ (by omega) (by omega) o4,pS]
theorem zbO{all:Span}(ha:bt all){l:List Span}(h:uw (all.ae+all.size) all.ae l):su all l=pS (all.ae+all.size) all.ae l:=by
 rw[su,wF ha]
 cases l with
 |nil=>
  rw[gJ,wI (by simp),ng,pS]
 |cons s l=>
  obtain⟨o1,o2,o3,o4⟩:=h
  unfold bt at o2
  rw[gJ,wI (fun h=>by have:=h.1;simp at this),wI (by simp),IG all l s _ (by omega) o1 o4,pS]
theorem Pc(x:Span)(out:List Span)(n:Nat)(h:∀ y,n≠0→out[n-1]? =some y→re x y=false)(hn:n≤out.length):mh x out n=n:=by
 cases n with
 |zero=>rfl
 |succ n=>
  rw[mh,wav,wj (by omega),wbr,h out[n] (by omega) (wj (by omega)),wI (by simp)]
theorem Pe(pre:List Span)(a m:Int)(h:∀ y∈pre,y.size=0∧y.ae≤a)(OK:a≤m):gx (pre++[⟨m,0⟩]) ⟨a,0⟩=pre++[⟨a,0⟩,⟨m,0⟩]:=by
 have h0:mh ⟨a,0⟩ (pre++[⟨m,0⟩]) pre.length=pre.length:=by
  refine Pc _ _ _ (fun y h0 hy=>?_) (by simp)
  rw[waf (by omega)]at hy
  obtain⟨h1,h2⟩:=h y (wag hy)
  unfold re
  rw[wal,h1]
  simp only
  omega
 rw[gx,wN,wbJ,mh,wav,waB (wy _),wbS]
 by_cases hc:a<m
 ·rw[wF (by simp[re];omega),h0]
  simp
 ·have:a=m:=by omega
  subst this
  rw[wI (by simp[re]),wZ (by simp)]
  simp
def ze(l:List Span):List Span:=l.flatMap fun x=>[⟨x.ae,0⟩,⟨x.ae+x.size,0⟩]
theorem Pg(e:Int):∀ (l:List Span) (p:Int) (pre:List Span),(∀y∈pre,y.size=0∧y.ae≤p)→uw e p l→(eG l).foldl gx (pre++[⟨e,0⟩])=pre++ze l++[⟨e,0⟩]
 |[],p,pre,h,_=>by simp[eG,ze]
 |x::l,p,pre,h,ho=>by
  obtain⟨o1,o2,o3,o4⟩:=ho
  have hm:=o2
  unfold bt at hm
  have hz:∀ y∈pre++[(⟨x.ae,0⟩:Span)],y.size=0∧y.ae≤x.ae+x.size:=fun y hy=>by
   rcases waI.1 hy with hy|hy
   ·have:=h y hy;omega
   ·rw[waG]at hy;subst hy;exact⟨rfl,show x.ae≤x.ae+x.size by omega⟩
  have ug:∀ y∈pre++[(⟨x.ae,0⟩:Span)]++[⟨x.ae+x.size,0⟩],y.size=0∧y.ae≤x.ae+x.size:=fun y hy=>by
   rcases waI.1 hy with hy|hy
   ·exact hz y hy
   ·rw[waG]at hy;subst hy;exact⟨rfl,Int.le_refl _⟩
  have he:eG (x::l)=⟨x.ae,0⟩::⟨x.ae+x.size,0⟩::eG l:=by simp[eG,wF o2]
  rw[he,wb4,wb4,Pe pre x.ae e (fun y hy=>by have:=h y hy;omega) (by omega),
   show pre++[(⟨x.ae,0⟩:Span),⟨e,0⟩]=(pre++[⟨x.ae,0⟩])++[⟨e,0⟩] by simp,Pe _ (x.ae+x.size) e hz (by omega),
   show pre++[(⟨x.ae,0⟩:Span)]++[⟨x.ae+x.size,0⟩,⟨e,0⟩]=(pre++[⟨x.ae,0⟩]++[⟨x.ae+x.size,0⟩])++[⟨e,0⟩] by simp,Pg e l _ _ ug o4]
  simp[ze]
theorem IH{x:Span}{a:Int}(h:a<x.ae∨x.ae+x.size≤a):hasB x a=false:=by
 unfold hasB
 rw[wal]
 omega
theorem uw.after{e:Int}:∀ {l:List Span} {p:Int},uw e p l→∀ x∈l,p≤x.ae
 |y::l,p,h,x,hx=>by
  obtain⟨o1,o2,o3,o4⟩:=h
  unfold bt at o2
  rcases wad.1 hx with rfl|hx
  ·exact o1
  ·have:=o4.after x hx;omega
theorem Ph{out:List Span}{p q:Int}(h:∀ y,out.getLast? =some y→y.ae+y.size<p):kE out p q=out++[⟨p,q-p⟩]:=by
 unfold kE
 cases hl:out.getLast? with
 |none=>rfl
 |some y=>simp only;rw[wI (by have:=h y hl;omega)]
theorem Pj(all:Span)(ha:bt all)(L:List Span):∀ (l done:List Span) (p:Int) (out:List Span),L=done++l→(∀y∈done,y.ae+y.size≤p)→all.ae≤p→uw (all.ae+all.size) p l→p≤all.ae+all.size→(∀y,out.getLast? =some y→y.ae+y.size<p)→
  pieces all L out (p::eI (some p) (ze l++[⟨all.ae+all.size,0⟩]))=out++pS (all.ae+all.size) p l
 |[],done,p,out,hL,hd,hp,_,cU,ho=>by
  show pieces all L out (p::((if some p=some (all.ae+all.size)then[]else[all.ae+all.size])++eI _ []))=_
  rw[eI,waw,pS]
  by_cases hc:p<all.ae+all.size
  ·rw[wI (by simp only[wi];omega),wF hc,pieces,pieces.eq_2 _ _ _ _ (fun a b r e=>by cases e)]
   have h1:hasB all p=true:=wz ⟨ha,hp,by omega⟩
   have h2:mj L p=false:=by
    unfold mj
    rw[List.any_eq_false]
    intro y hy
    rw[hL,waw]at hy
    rw[IH (.inr (hd y hy))]
    simp
   rw[h1,h2]
   simp only[wb0,wcm,wah]
   exact Ph ho
  ·rw[wF (by simp only[wi];omega),wI hc,waw,pieces.eq_2 _ _ _ _ (fun a b r e=>by cases e)]
 |x::l,done,p,out,hL,hd,hp,zbP,cU,ho=>by
  obtain⟨o1,o2,o3,o4⟩:=zbP
  have hm:=o2
  unfold bt at hm
  have II:L=(done++[x])++l:=by rw[hL];simp
  have iZ:∀ y∈done++[x],y.ae+y.size≤x.ae+x.size:=fun y hy=>by
   rcases waI.1 hy with hy|hy
   ·have:=hd y hy;omega
   ·rw[waG]at hy;subst hy;omega
  have Pk:mj L x.ae=true:=by
   unfold mj
   rw[List.any_eq_true]
   exact⟨x,by rw[hL];simp,wz ⟨o2,by omega,by omega⟩⟩
  have Pl:=fun out bJ=>Pj all ha L l (done++[x]) (x.ae+x.size) out II iZ (by omega) o4 o3 bJ
  have he:eI (some p) (ze (x::l)++[⟨all.ae+all.size,0⟩])=(if p=x.ae then[]else[x.ae])++(x.ae+x.size)::eI (some (x.ae+x.size)) (ze l++[⟨all.ae+all.size,0⟩]):=by
   show(if some p=some x.ae then[]else[x.ae])++((if some x.ae=some (x.ae+x.size)then[]else[x.ae+x.size])++eI _ _)=_
   rw[wI (show ¬some x.ae=some (x.ae+x.size) by simp only[wi];omega)]
   simp only[wi]
   rfl
  rw[he,pS]
  by_cases hc:p<x.ae
  ·rw[wI (by omega),wF hc,List.singleton_append,pieces,pieces]
   have h1:hasB all p=true:=wz ⟨ha,hp,by omega⟩
   have h2:mj L p=false:=by
    unfold mj
    rw[List.any_eq_false]
    intro y hy
    rw[hL]at hy
    rcases waI.1 hy with hy|hy
    ·rw[IH (.inr (hd y hy))];simp
    ·have:x.ae≤y.ae:=by
      rcases wad.1 hy with rfl|hy
      ·omega
      ·have:=o4.after y hy;omega
     rw[IH (.inl (by omega))];simp
   rw[h1,h2,Pk]
   simp only[wb0,wa7,wcm,wcP,wah,wG,waa]
   rw[Ph ho,Pl _ (fun y hy=>by rw[List.getLast?_append]at hy;simp at hy;subst hy;simp only;omega),waP]
  ·have:p=x.ae:=by omega
   subst this
   rw[wF rfl,wI hc,wL,wL,pieces,Pk]
   simp only[wa7,wcP,wG,waa]
   exact Pl _ fun y hy=>by have:=ho y hy;omega
theorem zbQ{all:Span}{l:List Span}(h:fG all none l=true):pR all l=su all l:=by
 by_cases ha:bt all
 ·have ho:=Pb (q:=all.ae) h (fun y e=>by cases e) (fun _=>rfl)
  have hm:=ha
  unfold bt at hm
  rw[zbO ha ho,pR,pQ,lE]
  have he:eG (all::l)=⟨all.ae,0⟩::⟨all.ae+all.size,0⟩::eG l:=by simp[eG,wF ha]
  rw[he,wb4,wb4,show gx (gx [] ⟨all.ae,0⟩) ⟨all.ae+all.size,0⟩=[⟨all.ae,0⟩]++[⟨all.ae+all.size,0⟩]from ?_,Pg _ l all.ae [⟨all.ae,0⟩] (fun y hy=>by rw[waG]at hy;subst hy;simp) ho]
  ·exact Pj all ha l l [] all.ae [] rfl (fun y hy=>by cases hy) (Int.le_refl _) ho (by omega) (fun y hy=>by cases hy)
  ·have hp:mh ⟨all.ae+all.size,0⟩ [⟨all.ae,0⟩] 1=1:=Pc _ _ 1 (fun y _ hy=>by
    simp only[wbS,wQ,wi]at hy
    subst hy
    unfold re
    rw[wal]
    simp only
    omega) (by simp)
   show gx [⟨all.ae,0⟩] ⟨all.ae+all.size,0⟩=_
   unfold gx
   simp only[wbJ,hp]
   rfl
 ·have hl:l=[]:=by
   cases l with
   |nil=>rfl
   |cons x l=>
    rw[vW,wA,wA,wT]at h
    exact absurd h.1.1.2.1 ha
  subst hl
  rw[su,wI ha,pR,pQ,eG]
  simp[wI ha,lE,eI,pieces]
def kF(all:Span):Option Span→List Span→Bool
 |_,[]=>true
 |p,x::l=>decide (lB x all)&&(match p with|none=>true|some y=>decide (y.ae<x.ae))&&kF all (some x) l
def iq(done:List Span):List Span→Bool
 |[]=>true
 |x::l=>decide (bt x)&&done.all (fun y=> !decide (km x y))&&iq (done++[x]) l
def ux(all:Span)(l free:List Span):Bool:=kF all none l&&iq [] l&&decide (pR all l=free)
theorem IJ(all:Span)(p:Option Span)(x:Span)(l:List Span):kF all p (x::l)=(decide (lB x all)&&(match p with|none=>true|some y=>decide (y.ae<x.ae))&&kF all (some x) l):=by cases p<;>rfl
theorem Pm{all:Span}:∀ {l:List Span} {p:Option Span},fG all p l=true→(∀y,p=some y→bt y)→kF all p l=true
 |[],_,_,_=>by cases ‹Option Span› <;>rfl
 |x::l,p,h,hp=>by
  rw[vW,wA,wA,wT]at h
  obtain⟨⟨hw,hq⟩,hl⟩:=h
  rw[IJ,wA,wA,wT]
  refine⟨⟨hw,?_⟩,Pm hl fun y e=>by cases e;exact hw.1⟩
  cases p with
  |none=>rfl
  |some y=>
   have h1:=hp y rfl
   unfold bt at h1
   have h2:y.ae+y.size≤x.ae:=wap hq
   exact wz (by omega)
theorem Pn{all:Span}:∀ {l:List Span} {p:Option Span} {done:List Span},fG all p l=true→(∀y∈done,∀x∈l,y.ae+y.size≤x.ae)→iq done l=true
 |[],_,_,_,_=>rfl
 |x::l,p,done,h,hd=>by
  rw[vW,wA,wA,wT]at h
  obtain⟨⟨hw,hq⟩,hl⟩:=h
  rw[iq,wA,wA,wT]
  refine⟨⟨hw.1,?_⟩,Pn hl fun y hy z hz=>?_⟩
  ·rw[waC]
   intro y hy
   have:=hd y hy x (wW ..)
   rw[wx]
   ·rfl
   ·unfold km Span.stop
    omega
  ·rcases waI.1 hy with hy|hy
   ·exact hd y hy z (wM _ hz)
   ·rw[waG]at hy
    subst hy
    exact(uo hl).2.2 _ rfl z hz
theorem Po{all:Span}:∀ {l:List Span} {p:Option Span} {done:List Span},kF all p l=true→iq done l=true→(∀y,p=some y→y∈done∧bt y)→fG all p l=true
 |[],p,_,_,_,_=>by cases p<;>rfl
 |x::l,p,done,h,ha,hd=>by
  rw[IJ,wA,wA,wT]at h
  obtain⟨⟨hw,hq⟩,hl⟩:=h
  rw[iq,wA,wA,wT]at ha
  obtain⟨⟨hm,hn⟩,hr⟩:=ha
  rw[vW,wA,wA,wT]
  refine⟨⟨hw,?_⟩,Po hl hr fun y e=>by cases e;exact⟨List.mem_append_right _ (waG.2 rfl),hm⟩⟩
  cases p with
  |none=>rfl
  |some y=>
   obtain⟨h1,h2⟩:=hd y rfl
   have h3:y.ae<x.ae:=wap hq
   have h4:=waC.1 hn y h1
   rw[wbt,wal]at h4
   unfold km Span.stop at h4
   have eC:=hm
   unfold bt at eC
   exact wz (by
    by_cases hc:y.ae+y.size≤x.ae
    ·exact hc
    ·exact absurd ⟨hm,h2,by omega,by omega⟩ h4)
theorem zbR(all:Span)(l:List Span):(kF all none l&&iq [] l)=fG all none l:=by
 cases h:fG all none l with
 |true=>rw[Pm h (fun y e=>by cases e),Pn h (fun y hy=>by cases hy)];rfl
 |false=>
  cases h1:kF all none l with
  |false=>rfl
  |true=>
   cases h2:iq [] l with
   |false=>rfl
   |true=>rw[Po h1 h2 (fun y e=>by cases e)]at h;cases h
theorem zbS(all:Span)(l free:List Span):ux all l free=jK all l free:=by
 unfold ux jK
 rw[zbR]
 cases h:fG all none l with
 |true=>rw[zbQ h]
 |false=>rfl
theorem zfE(H:Heap)(an:H.lo≤H.next)(v:Value)(l:List Int)(hv:SLr (RInt .i64) 1 H v l)(x:Int):af E (aK 132) [v,.int .i64 x] H fun r H'=>r= .bool (decide (x∈l))∧aq H H':=by
 obtain⟨⟨a,ca,rfl,⟨_,ft⟩,bs⟩, -⟩:=hv
 refine aV Tryz.f132 ?_
 simp only[Tryz.f132]
 simp(disch:=omega)only[↓aa,ab,simprocAttr,sa, *]
 refine bP H [0,1,5] (fun T1 H1 u1 k1 n1 l1 g1=>?_) aj
 try simp(disch:=omega)only[sm,sl]at n1 l1 g1
 simp only[sq,simprocAttr]at u1
 refine bL kq (fun nn T X=>∃ i:Nat,nn=l.length-i∧(T.get 5=some (.int .i64 i))∧(T.get 0=T1.get 0∧T.get 1=T1.get 1)∧Ko H1 X∧X.lo=H1.lo∧(i≤l.length∧decide (x∈l)=decide (x∈l.drop i))) ?_ ?_
 ·refine⟨_,0,rfl,?_,?_,Ko.refl _,rfl,⟨wJ _,rfl⟩⟩<;>exact aJ
 rintro nn dA X1 ⟨i,rfl,m1,w1,kx1,eQ,⟨hi,hE⟩⟩ Qs hQ aG ai
 have bz:=k1.trans kx1;have dZ:=kx1.ag;have ed:=kx1.objs
 by_cases hlt:i<l.length
 ·obtain⟨r,o,cells,gg,tt,part,rfl,hr,aC,aR,rfl⟩:=bs i l[i] (by simp)
  have a1:=bn hlt
  have e1:=bz.objs r hr
  have hg:=ER aR
  clear aR
  rw[wX hlt]at hE
  generalize l[i]=y at hE hg
  by_cases hy:y=x
  ·have hT:decide (x∈l)=true:=by rw[hE];exact wz (by rw[hy];exact wW ..)
   clear hE
   repeat'(first|(apply ak<;>intro)|((with_reducible show Qs _ _ _ _ _);first|refine ai _ _ _ _ ?_|refine aG _ _ _ ?_)|simp(disch:=omega)only[↓aa,ab,simprocAttr,sa, *])
   all_goals exact bq
  ·have hN:decide (x∈l)=decide (x∈l.drop (i+1)):=by
    rw[hE]
    congr 1
    rw[wad]
    exact propext ⟨fun h=>h.resolve_left fun e=>hy e.symm,.inr⟩
   clear hE
   repeat'(first|(apply ak<;>intro)|((with_reducible show Qs _ _ _ _ _);refine ai _ _ _ _ ?_)|simp(disch:=omega)only[↓aa,ab,simprocAttr,sa, *])
   all_goals first|(refine hQ _ _ _ ?_ ⟨i+1,rfl,?_,?_,?_,?_,⟨by omega,hN⟩⟩<;>exact aJ)|omega
 ·have hF:decide (x∈l)=false:=by rw[hE,waO (by omega)];rfl
  clear hE
  repeat'(first|(apply ak<;>intro)|((with_reducible show Qs _ _ _ _ _);refine ai _ _ _ _ ?_)|simp(disch:=omega)only[↓aa,ab,simprocAttr,sa, *])
  all_goals exact bq
theorem Pw(H:Heap)(an:H.lo≤H.next)(v:Value)(l:List Span)(hv:SLr bD 2 H v l)(x:Int):af E (aK 235) [v,.int .i64 x] H fun r H'=>r= .bool (mj l x)∧aq H H':=by
 obtain⟨⟨a,ca,rfl,⟨_,ft⟩,bs⟩, -⟩:=hv
 refine aV Tryz.f235 ?_
 simp only[Tryz.f235]
 simp(disch:=omega)only[↓aa,ab,simprocAttr,sa, *]
 refine bP H [0,1,5] (fun T1 H1 u1 k1 n1 l1 g1=>?_) aj
 try simp(disch:=omega)only[sm,sl]at n1 l1 g1
 simp only[sq,simprocAttr]at u1
 refine bL kq (fun nn T X=>∃ i:Nat,nn=l.length-i∧(T.get 5=some (.int .i64 i))∧(T.get 0=T1.get 0∧T.get 1=T1.get 1)∧Ko H1 X∧X.lo=H1.lo∧(i≤l.length∧mj l x=mj (l.drop i) x)) ?_ ?_
 ·refine⟨_,0,rfl,?_,?_,Ko.refl _,rfl,⟨wJ _,rfl⟩⟩<;>exact aJ
 rintro nn dA X1 ⟨i,rfl,m1,w1,kx1,eQ,⟨hi,hE⟩⟩ Qs hQ aG ai
 have bz:=k1.trans kx1;have dZ:=kx1.ag;have ed:=kx1.objs
 by_cases hlt:i<l.length
 ·obtain⟨r,o,cells,gg,tt,part,rfl,hr,aC,aR,rfl⟩:=bs i l[i] (by simp)
  have a1:=bn hlt
  have e1:=bz.objs r hr
  have bM:mj l x=(hasB l[i] x||mj (l.drop (i+1)) x):=by rw[hE,wX hlt];rfl
  clear hE
  generalize l[i]=y at bM aR
  unfold hasB at bM
  cases hd:decide (bt y∧y.ae≤x∧x≤y.ae+y.size-1)with
  |true=>
   rw[hd,Bool.true_or]at bM
   repeat'(first|(apply ak<;>intro)|((with_reducible show af _ _ _ _ _);refine ao H1 (rf _ ah y x) ?_;intro H2 k2 l2 n2 g2 q2;try simp(disch:=omega)only[sm,sl]at l2 n2 g2 q2)|((with_reducible show Qs _ _ _ _ _);first|refine ai _ _ _ _ ?_|refine aG _ _ _ ?_)|simp(disch:=omega)only[↓aa,ab,simprocAttr,sa,bh, *])
   all_goals exact bq
  |false=>
   rw[hd,wct]at bM
   repeat'(first|(apply ak<;>intro)|((with_reducible show af _ _ _ _ _);refine ao H1 (rf _ ah y x) ?_;intro H2 k2 l2 n2 g2 q2;try simp(disch:=omega)only[sm,sl]at l2 n2 g2 q2)|((with_reducible show Qs _ _ _ _ _);refine ai _ _ _ _ ?_)|simp(disch:=omega)only[↓aa,ab,simprocAttr,sa,bh, *])
   all_goals first|(refine hQ _ _ _ ?_ ⟨i+1,rfl,?_,?_,?_,?_,⟨by omega,bM⟩⟩<;>exact aJ)|omega
 ·have hF:mj l x=false:=by rw[hE,waO (by omega)];rfl
  clear hE
  repeat'(first|(apply ak<;>intro)|((with_reducible show Qs _ _ _ _ _);refine ai _ _ _ _ ?_)|simp(disch:=omega)only[↓aa,ab,simprocAttr,sa, *])
  all_goals exact bq
theorem IS(H:Heap)(an:H.lo≤H.next)(v w:Value)(l m:List Span)(hv:SLr bD 2 H v l)(hw:SLr bD 2 H w m):af E (aK 44) [v,w] H fun r H'=>r= .bool (decide (l=m))∧aq H H':=by
 obtain⟨⟨a,ca,rfl,⟨_,ft⟩,bs⟩, -⟩:=hv
 obtain⟨⟨b,cb,rfl,⟨_,me⟩,fh⟩, -⟩:=hw
 refine aV Tryz.f44 ?_
 simp only[Tryz.f44]
 by_cases bj:l.length=m.length
 ·have hd:decide ((l.length:Int)=m.length)=true:=wz (by omega)
  simp(disch:=omega)only[↓aa,ab,simprocAttr,sa, *]
  all_goals try omega
  refine bP H [0,1,5] (fun T1 H1 u1 k1 n1 l1 g1=>?_) aj
  try simp(disch:=omega)only[sm,sl]at n1 l1 g1
  simp only[sq,simprocAttr]at u1
  refine bL kq (fun nn T X=>∃ i:Nat,nn=l.length-i∧(T.get 5=some (.int .i64 i))∧(T.get 0=T1.get 0∧T.get 1=T1.get 1)∧Ko H1 X∧X.lo=H1.lo∧(i≤l.length∧l.take i=m.take i)) ?_ ?_
  ·refine⟨_,0,rfl,?_,?_,Ko.refl _,rfl,⟨wJ _,rfl⟩⟩<;>exact aJ
  rintro nn dA X1 ⟨i,rfl,m1,w1,kx1,eQ,⟨hi,hE⟩⟩ Qs hQ aG ai
  have bz:=k1.trans kx1;have dZ:=kx1.ag;have ed:=kx1.objs
  by_cases hlt:i<l.length
  ·obtain⟨r,o,cells,gg,tt,part,rfl,hr,aC,aR,rfl⟩:=bs i l[i] (by simp)
   obtain⟨r2,o2,gy,jP,jQ,jR,rfl,cq,fZ,cM,rfl⟩:=fh i m[i] (by simp)
   have a1:=bn hlt
   have a2:=bn (show i<m.length by omega)
   have e1:=bz.objs r hr
   have e2:=bz.objs r2 cq
   have hx:l[i]? =some l[i]:=wj hlt
   have hy:m[i]? =some m[i]:=wj (by omega)
   generalize l[i]=x at aR hx
   generalize m[i]=y at cM hy
   have aX:x≠y→decide (l=m)=false:=fun hh=>wx fun e=>by rw[e,hy]at hx;exact hh (waH hx).symm
   have jH:x=y→l.take (i+1)=m.take (i+1):=fun hh=>by rw[wR,wR,hE,hx,hy,hh]
   have Ae:x=y↔x.ae=y.ae∧x.size=y.size:=⟨fun h=>by subst h;exact⟨rfl,rfl⟩,fun h=>by cases x;cases y;simp only at h;rw[h.1,h.2]⟩
   by_cases h1:x.ae=y.ae
   ·by_cases h2:x.size=y.size
    ·have h3:=jH (Ae.2 ⟨h1,h2⟩)
     repeat'(first|(apply ak<;>intro)|refine aw 6 [Fx,Fx,Fx,Fx,Fx,Fx,Fx,Fx,Fx] ?_|((with_reducible show Qs _ _ _ _ _);refine ai _ _ _ _ ?_)|simp(disch:=omega)only[↓aa,ab,simprocAttr,sa,bh,wbq, *])
     all_goals first|(refine hQ _ _ _ ?_ ⟨i+1,rfl,?_,?_,?_,?_,⟨by omega,h3⟩⟩<;>exact aJ)|omega
    ·have h3:=aX fun e=>h2 (Ae.1 e).2
     have hb:(x.size==y.size)=false:=by simpa using h2
     repeat'(first|(apply ak<;>intro)|refine aw 6 [Fx,Fx,Fx,Fx,Fx,Fx,Fx,Fx,Fx] ?_|((with_reducible show Qs _ _ _ _ _);first|refine ai _ _ _ _ ?_|refine aG _ _ _ ?_)|simp(disch:=omega)only[↓aa,ab,simprocAttr,sa,bh,wbq, *])
     all_goals exact bq
   ·have h3:=aX fun e=>h1 (Ae.1 e).1
    have hb:(x.ae==y.ae)=false:=by simpa using h1
    repeat'(first|(apply ak<;>intro)|refine aw 6 [Fx,Fx,Fx,Fx,Fx,Fx,Fx,Fx,Fx] ?_|((with_reducible show Qs _ _ _ _ _);first|refine ai _ _ _ _ ?_|refine aG _ _ _ ?_)|simp(disch:=omega)only[↓aa,ab,simprocAttr,sa,bh,wbq, *])
    all_goals exact bq
  ·have hT:decide (l=m)=true:=wz (by
    have:i=l.length:=by omega
    subst this
    rw[waj,bj,waj]at hE
    exact hE)
   repeat'(first|(apply ak<;>intro)|refine aw 6 [Fx,Fx,Fx,Fx,Fx,Fx,Fx,Fx,Fx] ?_|((with_reducible show Qs _ _ _ _ _);refine ai _ _ _ _ ?_)|simp(disch:=omega)only[↓aa,ab,simprocAttr,sa, *])
   all_goals exact bq
 ·have hF:decide (l=m)=false:=wx fun e=>bj (by rw[e])
  repeat'(first|(apply ak<;>intro)|apply bw|simp(disch:=omega)only[↓aa,ab,simprocAttr,sa, *])
  all_goals exact bq
end Go.AM
