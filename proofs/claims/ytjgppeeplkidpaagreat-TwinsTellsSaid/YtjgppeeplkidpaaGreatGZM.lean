/-
  Walks over letters of the functions that the law reaches; written small by a program of mine.
-/
import Derived.Test.YtjgppeeplkidpaaGreatGZK
import Derived.Test.YtjgppeeplkidpaaGreatGV8
import Derived.Test.YtjgppeeplkidpaaGreatGYA
import Derived.Test.YtjgppeeplkidpaaGreatGYK
set_option linter.unusedVariables false
set_option linter.unusedSectionVars false
namespace Go.AM
attribute [local instance] fnMaps
open Go Go.Proofs
set_option maxRecDepth 100000
set_option maxHeartbeats 4000000
set_option linter.unusedSimpArgs false
theorem zh3(H0 H:Heap)(an:H0.lo≤H0.next){x y:Value}{g:Gr}(hG:eg H0 x y g)(hg:jT g)(hn:g.nodes.length≤1000000){p mt mp:Nat}(hP:PM H0 H p mt mp x y g [] 0):
  af E (aK 247) [ptr p 0,.func (.func 248) #[ptr p 0] #[]] H fun r H'=>r= .tuple #[]∧∃ l,Order g l∧PM H0 H' p mt mp x y g l l.length:=by
 have nz:=hG
 have hrr:=hG.roots
 obtain⟨⟨na,nc,rfl,⟨_,uB⟩,bs⟩,_⟩:=hG.nodes
 obtain⟨⟨ra,rc,rfl,_⟩,_⟩:=hG.roots
 obtain⟨first,f1,f2,hP⟩:=hP
 have th:=hP.ph
 have jH:=th.ko.ag
 have hl0:=th.lo
 have aC:∃ c2 c3 c4 c5 c6 c7 c8 c9 c10 c11 c12,H.objs.get p=some (.row [.slice na g.nodes.length nc,.slice ra g.roots.length rc,c2,c3,c4,c5,c6,c7,c8,c9,c10,c11,c12] none true):=by
  obtain⟨sv,bv,lv,top,gs,gb,gl,bc,es,hB,_⟩:=hP
  exact⟨_,_,_,_,_,_,_,_,_,_,_,hB.row⟩
 obtain⟨_,_,_,_,_,_,_,_,_,_,_,e0⟩:=aC
 refine aV Tryz.f247 ?_
 simp only[Tryz.f247]
 simp(disch:=omega)only[↓aa,ab,simprocAttr,sa,sI, *]
 all_goals try omega
 refine af.mono (Rd H0 _ an nz hg hn hP (wJ _) wbv (fun i hi=>by cases hi) _ _ hrr hg.root) ?_
 rintro _ Y ⟨rfl,hY⟩
 have kB:=qf.first hg.right
 have hy:=hY.ph
 repeat'(first|(apply ak<;>intro)|apply bw|refine cO (fun _=>?_) (fun _=>?_)|refine aw 4 [Fx,Fx,Fx,Fx,Fx,Fx,Fx,Fx,Fx,Fx,Fx,Fx,Fx,Fx,Fx,Fx,Fx] ?_|((with_reducible show Qs _ _ _ _ _);first|refine ai _ _ _ _ ?_|refine aG _ _ _ ?_)|simp(disch:=omega)only[↓aa,ab,simprocAttr,sa,sI, *])
 all_goals try omega
 refine bP Y [0,1] (fun T5 H5 u5 j5 n5 l5 g5=>?_) jr
 try simp(disch:=omega)only[sm,sl,sI]at n5 l5 g5
 simp only[sq,simprocAttr]at u5
 refine bL kq (fun nn T X=>∃ (l:List Nat) (k:Nat),nn=g.nodes.length-k+1∧(True)∧(T.get 0=T5.get 0∧T.get 1=T5.get 1)∧True∧True∧(qf g l k∧PM H0 X p mt mp (.slice na g.nodes.length nc) (.slice ra g.roots.length rc) g l k)) ?_ ?_
 ·refine⟨_,_,0,rfl,?_,?_,trivial,trivial,kB,⟨first,f1,f2,hY.go j5 l5⟩⟩<;>exact aJ
 clear kB hP hY e0 hy th
 rintro nn zk X5 ⟨l,k,rfl,m5,w5,_,_,hW,oY⟩ Qs hQ aG ai
 have bj:=hW.len
 have ck:=hW.le
 simp(disch:=omega)only[↓aa,ab,simprocAttr,sa,sI, *]
 all_goals try omega
 refine af.mono (zh2 H0 _ an nz oY ck (by omega)) ?_
 rintro _ Z ⟨rfl,hZ⟩
 clear oY
 obtain⟨fs,s1,s2,hZ⟩:=hZ
 have hz:=hZ.ph
 have hzn:=hz.ko.ag
 have zq:=hz.lo
 have hZ0:=hZ
 obtain⟨sv,bv,lv,top,gs,gb,gl,bc,es,hB,t1,t2,hK⟩:=hZ
 obtain⟨iK,sk,rfl⟩:=oX hB.sm
 obtain⟨ba,bk,rfl⟩:=oX hB.bg
 obtain⟨ka,kk,rfl⟩:=oX hB.lk
 have e1:=hB.row
 have kh:=hB.pb
 unfold qe at e1
 by_cases mP:k<l.length
 ·have dk:decide (k<l.length)=true:=wz mP
  obtain⟨r,kk',Z2,hv,hw,zji,nF⟩:=hB.look (x:= .bool true) (o:=k) an rfl (by rw[Fo];exact mP)
  rw[zhU mP]at nF
  have rq:PF H0 Z2 p mt mp (.slice na g.nodes.length nc) (.slice ra g.roots.length rc) g l (k+1) fs:=⟨_,_,_,top,gs,gb,gl,bc,es,nF,t1,t2,hK⟩
  have fX:=hB.lk
  cases gl with
  |none=>have:=fX.2.1;omega
  |some gq=>
   obtain⟨r',cap,full,aT,ly,y5,Ii,CI,Fs,Re,hv7,hv8, -⟩:=fX
   rw[ly]at hv
   simp only[waq,wi,wcE,wcl,wbT]at ly hv
   obtain⟨rfl,rfl⟩:=hv
   obtain⟨rfl,rfl⟩:=ly
   have jb:xY Z r' k [.bool true] full gq 1 (some aT)=some Z2:=by
    rw[←Re,←CT,←Fs,←CU]
    exact hw
   have fF:=nF.sm
   cases gs with
   |none=>have:=fF.2.1;omega
   |some gp=>
    obtain⟨r2,zjj,zh4,zjk,Dg,K9,La,zu,hu5,hu6,hu7,hu8, -⟩:=fF
    simp only[waq,wbT]at Dg
    obtain⟨rfl,rfl⟩:=Dg
    have a1:=bn mP
    obtain⟨i,hi⟩:∃ i,l[k]? =some i:=⟨_,wj mP⟩
    have cf:=hW.lt i (wag hi)
    have q1:zh4[k]? =some (.int .i64 i):=by
     have:(l.map xO)[k]? =some (xO i):=by rw[war,hi];rfl
     rw[←zu,wab,wF (by omega)]at this
     exact this
    have a2:=bn cf
    obtain⟨r3,o,cells,gg,tt,part,rfl,hr,aC,aR,f,w,rfl,hf,hw3⟩:=bs i g.nodes[i] (by simp)
    have e2:=nF.row
    have dL:=nF.ko
    have e3:=(dL.objs r3 hr).trans aC
    obtain⟨q3,q4,q5⟩:=yG aR
    have ur:lH g i=g.nodes[i].fields:=zF (wj cf)
    have lP:=(hg.node g.nodes[i] (wam cf)).2.2.2.2
    have Rf:=hW.next hg.right hi
    rw[ur]at Rf
    generalize g.nodes[i]=nd at*
    unfold qe at e2
    have Fp:=nF.lo
    clear hB nF CI zu aR
    repeat'(first|refine aw 4 [Fx,Fx,Fx,Fx,Fx,Fx,Fx,Fx,Fx,Fx,Fx,Fx,Fx,Fx,Fx,Fx,Fx] ?_|simp(disch:=omega)only[↓aa,ab,simprocAttr,sa,sI, *])
    all_goals try omega
    refine af.mono (Rd H0 _ an nz hg hn rq (by omega) hW.nodup hW.lt _ _ hf lP) ?_
    rintro _ W ⟨rfl,Rg⟩
    have fS:=Rg.ph.lo
    have hPM:PM H0 W p mt mp (.slice (some ⟨r3,o,none⟩) g.nodes.length nc) (.slice ra g.roots.length rc) g (dM l nd.fields) (k+1):=⟨fs,s1,by omega,Rg⟩
    simp(disch:=omega)only[↓aa,ab,simprocAttr,sa,sI, *]
    all_goals try omega
    refine hQ _ _ _ ?_ ⟨dM l nd.fields,k+1,rfl,?_,?_,trivial,trivial,Rf,hPM⟩<;>exact aJ
 ·have dk:decide (k<l.length)=false:=wx mP
  have ek:k=l.length:=by omega
  subst ek
  have hO:=hW.last mP
  have aC:=hB.row
  repeat'(first|((with_reducible show af _ _ _ _ _);refine ao Z (zhv _ ah (by omega) aC) ?_;intro H2 k2 l2 n2 g2 q2;try simp(disch:=omega)only[sm,sl,sI]at l2 n2 g2 q2)|((with_reducible show Qs _ _ _ _ _);refine aG _ _ _ ?_)|simp(disch:=omega)only[↓aa,ab,simprocAttr,sa,sI, *])
  all_goals try omega
  exact⟨l,hO,fs,s1,s2,hZ0.go k2 l2⟩
theorem zh7(H:Heap)(l c:Nat):makeSliceV E H 90 (.int .i64 (.ofNat l)) (.int .i64 (.ofNat c))=bif Nat.ble l c&&Nat.ble c 1000000000&&Nat.ble (c*1) 10000000000&& !Nat.beq 1 0&&Nat.beq 1 1 then some (.slice (some ⟨H.next,0,none⟩) l c,H.newRow (df [Value.bool false] c))else none:=kq
theorem Rk:∀ n,df [Value.bool false] n=qk n []
 |0=>rfl
 |n+1=>by
  rw[iG,Rk n]
  unfold qk
  rw[List.range_succ_eq_map,wbk,List.map_map]
  rfl
theorem zh8(H:Heap)(n:Nat)(h:n≤1000000):makeSliceV E H 90 (.int .i64 (n:Int)) (.int .i64 (n:Int))=some (.slice (some ⟨H.next,0,none⟩) n n,H.newRow (qk n [])):=by
 have e:=zh7 H n n
 rw[Rk]at e
 refine wE e ?_
 rw[wP (wy n),wP (show n≤1000000000 by omega),wP (show n*1≤10000000000 by omega)]
 rfl
theorem zh9(H:Heap)(an:H.lo≤H.next){x y:Value}{g:Gr}(hG:eg H x y g)(hn:g.nodes.length≤1000000):
  af E (aK 207) [.agg #[x,y],.int .i64 1048576,.int .i64 1] H fun r H'=>∃ p mt mp,r=ptr p 0∧PM H H' p mt mp x y g [] 0:=by
 obtain⟨⟨na,nc,rfl,⟨_,uB⟩,bs⟩,_⟩:=hG.nodes
 obtain⟨⟨ra,rc,rfl,_⟩,_⟩:=hG.roots
 have HK:=fun X=>zh8 X g.nodes.length hn
 refine aV Tryz.f207 ?_
 simp only[Tryz.f207]
 repeat'(first|refine aw 1 [Fx,Fx,Fx,Fx,Fx,Fx,Fx,Fx,Fx,Fx,Fx] ?_|simp(disch:=omega)only[↓aa,ab,simprocAttr,sa,sI, *])
 all_goals try omega
 refine⟨H.next+1+1+1,H.next+1,H.next+1+1,rfl,0,by omega,by omega,.slice none 0 0,.slice none 0 0,.slice none 0 0,0,none,none,none,[],[],
  ⟨jr,by simp(disch:=omega)only[sm,sl,sI],⟨by omega,by simp(disch:=omega)only[sm,sl,sI];omega⟩,⟨by omega,by simp(disch:=omega)only[sm,sl,sI];omega⟩,⟨by omega,by simp(disch:=omega)only[sm,sl,sI];omega⟩,by omega,?_,?_,?_,OS.nil _ _ _,OS.nil _ _ _,OS.nil _ _ _,.inl rfl,.inl rfl,.inl rfl⟩,by omega,by simp,fun e he=>by cases he⟩
 ·simp(disch:=omega)only[sm,sl,sI]
  rfl
 ·simp(disch:=omega)only[sm,sl,sI]
 ·simp(disch:=omega)only[sm,sl,sI]
theorem zia(H0 H:Heap)(an:H0.lo≤H0.next){x y:Value}{g:Gr}(hG:eg H0 x y g)(hg:jT g)(hn:g.nodes.length≤1000000){p mt mp:Nat}(hP:PM H0 H p mt mp x y g [] 0):
  af E (aK 208) [ptr p 0,.int .i64 0] H fun r H'=>r= .tuple #[]∧∃ l,Order g l∧PM H0 H' p mt mp x y g l l.length:=by
 have Fp:H.lo≤H.next:=by
  obtain⟨_,_,_,hF⟩:=hP
  have h:=hF.ph
  have:=h.ko.ag
  rw[h.lo];omega
 refine aV Tryz.f208 ?_
 simp only[Tryz.f208]
 simp(disch:=omega)only[↓aa,ab,simprocAttr,sa,sI, *]
 all_goals try omega
 refine af.mono (zh3 H0 _ an hG hg hn hP) ?_
 rintro _ Y ⟨rfl,hY⟩
 simp(disch:=omega)only[↓aa,ab,simprocAttr,sa,sI, *]
 all_goals first|exact⟨rfl,hY⟩|exact hY|trace_state
def fI(l:List Nat):List Int:=l.map Int.ofNat
theorem zib(l:List Nat):l.map xO=(fI l).map cx:=by
 unfold fI
 rw[List.map_map]
 rfl
theorem zic(H:Heap)(an:H.lo≤H.next){x y:Value}{g:Gr}(hG:eg H x y g)(hg:jT g)(hn:g.nodes.length≤1000000):
  af E (aK 145) [.agg #[x,y],.int .i64 1048576,.int .i64 0,.int .i64 1] H fun r H'=>(∃v w l,r= .tuple #[v,w,.int .i64 0]∧Order g l∧SLr (RInt .i64) 1 H' v (fI l))∧aq H H':=by
 have c1:=fun(X:Heap) (hx:X.lo≤X.next) (k:Ko H X)=>PS X hx (hG.ko k) hg
 have c2:=fun(X:Heap) (hx:X.lo≤X.next) (k:Ko H X)=>zh9 X hx (hG.ko k) hn
 have nz:=hG
 obtain⟨⟨na,nc,rfl,⟨_,uB⟩,bs⟩,_⟩:=hG.nodes
 obtain⟨⟨ra,rc,rfl,_⟩,_⟩:=hG.roots
 refine aV Tryz.f145 ?_
 simp only[Tryz.f145]
 repeat'(first|((with_reducible show af _ _ _ _ _);refine ao H (c1 _ ah aj) ?_;intro H2 k2 l2 n2 g2 q2;try simp(disch:=omega)only[sm,sl,sI]at l2 n2 g2 q2)|simp(disch:=omega)only[↓aa,ab,simprocAttr,sa,sI, *])
 all_goals try omega
 refine af.mono (c2 _ (by omega) k2) ?_
 rintro _ Y ⟨p,mt,mp,rfl,hY⟩
 refine af.mono (zia H2 _ (by omega) (nz.ko k2) hg hn hY) ?_
 rintro _ Z ⟨rfl,l,hO,fs, -, -,hZ⟩
 obtain⟨sv,bv,lv,top,gs,gb,gl,bc,es,hB, -⟩:=hZ
 have bj:l.length≤1000000:=by
  have:=Ce hg.right hO
  exact wK (zH _ l this.nodup this.lt) hn
 have hR:SLr (RInt .i64) 1 Z sv (fI l):=hB.sm.reads (by unfold fI;rw[wO]) (by omega) (by rw[zib];exact Jd Z _)
 obtain⟨iK,sk,rfl⟩:=oX hB.sm
 obtain⟨ba,bk,rfl⟩:=oX hB.bg
 obtain⟨ka,kk,rfl⟩:=oX hB.lk
 have e1:=hB.row
 have hk:=k2.trans hB.ko
 have Fp:=hB.lo
 unfold qe at e1
 clear hB c1 c2
 repeat'(first|refine aw 7 [Fx,Fx,Fx,Fx,Fx,Fx,Fx,Fx,Fx,Fx,Fx] ?_|simp(disch:=omega)only[↓aa,ab,simprocAttr,sa,sI, *])
 all_goals try omega
 exact⟨⟨_,_,l,rfl,hO,hR⟩,hk.same (by omega)⟩
theorem zid(H:Heap)(an:H.lo≤H.next){x y:Value}{g:Gr}(hG:eg H x y g)(hg:jT g)(hn:g.nodes.length≤1000000):
  af E (aK 106) [.agg #[x,y],.int .i64 0] H fun r H'=>(∃v l,r= .tuple #[v,.int .i64 0]∧Order g l∧SLr (RInt .i64) 1 H' v (fI l))∧aq H H':=by
 have c1:=fun(X:Heap) (hx:X.lo≤X.next) (k:Ko H X)=>zic X hx (hG.ko k) hg hn
 obtain⟨⟨na,nc,rfl,⟨_,uB⟩,bs⟩,_⟩:=hG.nodes
 obtain⟨⟨ra,rc,rfl,_⟩,_⟩:=hG.roots
 refine aV Tryz.f106 ?_
 simp only[Tryz.f106]
 simp(disch:=omega)only[↓aa,ab,simprocAttr,sa,sI, *]
 all_goals try omega
 refine af.mono (c1 _ ah aj) ?_
 rintro _ Z ⟨⟨v,w,l,rfl,hO,hR⟩,sZ⟩
 have kZ:Ko H Z:=Ko.call aj sZ
 have lZ:=sZ.lo
 simp(disch:=omega)only[sm,sl,sI]at lZ
 simp(disch:=omega)only[↓aa,ab,simprocAttr,sa,sI, *]
 all_goals first|exact⟨⟨_,l,rfl,hO,hR⟩,kZ.same lZ⟩|omega|trace_state
theorem zie(H:Heap)(an:H.lo≤H.next){x y:Value}{g:Gr}(hG:eg H x y g)(hg:jT g)(hn:g.nodes.length≤1000000):
  af E (aK 79) [.agg #[x,y]] H fun r H'=>(∃v l,r= .tuple #[v,.int .i64 0]∧Order g l∧SLr (RInt .i64) 1 H' v (fI l))∧aq H H':=by
 have c1:=fun(X:Heap) (hx:X.lo≤X.next) (k:Ko H X)=>zid X hx (hG.ko k) hg hn
 obtain⟨⟨na,nc,rfl,⟨_,uB⟩,bs⟩,_⟩:=hG.nodes
 obtain⟨⟨ra,rc,rfl,_⟩,_⟩:=hG.roots
 refine aV Tryz.f79 ?_
 simp only[Tryz.f79]
 simp(disch:=omega)only[↓aa,ab,simprocAttr,sa,sI, *]
 all_goals try omega
 refine af.mono (c1 _ ah aj) ?_
 rintro _ Z ⟨⟨v,l,rfl,hO,hR⟩,sZ⟩
 have kZ:Ko H Z:=Ko.call aj sZ
 have lZ:=sZ.lo
 simp(disch:=omega)only[sm,sl,sI]at lZ
 simp(disch:=omega)only[↓aa,ab,simprocAttr,sa,sI, *]
 all_goals first|exact⟨⟨_,l,rfl,hO,hR⟩,kZ.same lZ⟩|omega|trace_state
theorem di.sub{b:Nat}{X:Heap}{I J:Ky→Prop}{D:Ky→dc}(h:di b X I D)(hs:∀ k,J k→I k):di b X J D:=⟨fun i hi=>h.ae i (hs i hi),fun i j hi hj=>h.mE i j (hs i hi) (hs j hj)⟩
theorem di.congr{b:Nat}{X:Heap}{I:Ky→Prop}{D D':Ky→dc}(h:di b X I D)(he:∀ k,I k→D k=D' k):di b X I D':=
 ⟨fun i hi=>by rw[←he i hi];exact h.ae i hi,fun i j hi hj aX=>by rw[←he i hi,←he j hj];exact h.mE i j hi hj aX⟩
def CJ(ob:Option AObj)(k z:Value):Option Value:=
 (match ob with
  |some (.map es)=>some es
  |some (.lh es _)=>some (es.map Prod.fst)
  |_=>none).bind fun es=>(findV k es 0).bind fun f=>
     match f with
     |some (_,v)=>some (.tuple #[v,.bool true])
     |none=>some (.tuple #[z,.bool false])
theorem Ft(H:Heap)(r:Nat)(k:Int):lookupV E H 112 (.map (some r)) (.int .i64 k) true=CJ (H.objs.get r) (.int .i64 k) (.int .i64 0):=kq
theorem Rl{l:List Int}{k:Int}(h:k∈l):CJ (some (.map (jq l 0))) (.int .i64 k) (.int .i64 0)=some (.tuple #[.int .i64 (l.idxOf k:Nat),.bool true]):=by
 rw[CJ]
 simp only[wo,Je 0 0 h]
 rw[wau]
theorem Rm{l:List Int}{k:Int}(h:k∉l):CJ (some (.map (jq l 0))) (.int .i64 k) (.int .i64 0)=some (.tuple #[.int .i64 0,.bool false]):=by
 rw[CJ]
 simp only[wo,Jf 0 0 h]
theorem Ro(o:List Nat):(fI o).length=o.length:=wO ..
theorem zif{o:List Nat}{i:Nat}:(i:Int)∈fI o↔i∈o:=by
 unfold fI
 rw[wbG]
 constructor
 ·rintro⟨j,h1,h2⟩
  have h2:(j:Int)=i:=h2
  have:j=i:=by omega
  rw[←this];exact h1
 ·exact fun h=>⟨i,h,rfl⟩
theorem Rp(i:Nat):∀ o:List Nat,(fI o).idxOf (i:Int)=o.idxOf i
 |[]=>rfl
 |a::o=>by
  show((a:Int)::fI o).idxOf (i:Int)=_
  rw[wb3,wb3,Rp i o]
  by_cases e:a=i
  ·rw[e,wbq,wbq]
  ·rw[beq_eq_false_iff_ne.2 e,beq_eq_false_iff_ne.2 (fun q=>e (by omega))]
theorem zig{o:List Nat}(h:o.Nodup):(fI o).Nodup:=by
 unfold fI
 refine List.Pairwise.map _ (fun a b rS q=>rS ?_) h
 have q:(a:Int)=b:=q
 omega
theorem Rq{o:List Nat}{t:Nat}(h:t<o.length):(fI o)[t]'(by rw[Ro];exact h)=(o[t]:Int):=by
 unfold fI
 rw[List.getElem_map];rfl
theorem J6:∀ (l:List bu) (j:Nat),(l.flatMap bF)[j]? =(l[j/2]?).map fun v=>if j%2=0 then Value.int .i64 v.kind else .int .i64 v.x
 |[],j=>by simp
 |v::l,0=>by simp[bF]
 |v::l,1=>by simp[bF]
 |v::l,j+2=>by
  have ih:=J6 l j
  simp only[wbm,bF,wat,wL,wbo]at ih⊢
  rw[ih,show(j+2)/2=j/2+1 by omega,show(j+2)%2=j%2 by omega,wbo]
theorem zih{l:List bu}{i:Nat}{v:bu}(h:l[i]? =some v)(y:Int):over [.int .i64 y] (i*2+1) (l.flatMap bF)=(l.set i ⟨v.kind,y⟩).flatMap bF:=by
 have hi:=(wD.1 h).1
 refine waR fun j=>?_
 rw[J2 _ _ _ (by rw[xC];omega),J6,J6,wca]
 by_cases h1:j=i*2+1
 ·rw[wF h1,wF (by omega),wF hi,waE,wI (by omega)]
 ·rw[wI h1]
  by_cases h2:i=j/2
  ·rw[wF h2,wF hi,waE,←h2,h,waE]
   have h3:j%2=0:=by omega
   rw[wF h3,wF h3]
  ·rw[wI h2]
def dG(g:Gr)(o:List Nat)(t:Nat):Gn:=((o[t]?).bind fun i=>g.nodes[i]?).getD ⟨0,[],[]⟩
theorem Fu{g:Gr}{o:List Nat}(h:∀ i∈o,i<g.nodes.length){t:Nat}(ht:t<o.length):g.nodes[o[t]]? =some (dG g o t):=by
 have h1:=h o[t] (wam ht)
 unfold dG
 rw[wj ht,wo,wj h1];rfl
theorem zii{g:Gr}{o:List Nat}(h:∀ i∈o,i<g.nodes.length):(fz g o).nodes=(List.range o.length).map fun t=>⟨(dG g o t).kind,(dG g o t).fields.map (iY o),(dG g o t).bC⟩:=by
 unfold fz
 refine waR fun t=>?_
 simp only[war]
 by_cases ht:t<o.length
 ·rw[wbC ht,wj ht,waE,waE,Cd (Fu h ht)]
 ·rw[wak (by omega),wak (by rw[wb9];omega)];rfl
def dN(g:Gr)(o:List Nat)(j:Nat):List bu:=if j=0 then g.roots else(dG g o (j-1)).fields
def gd(j:Nat):Ky:=if j=0 then(1,0)else(3,j-1)
def dH(g:Gr)(o:List Nat)(j i:Nat)(k:Nat):List bu:=if k<j then(dN g o k).map (iY o)else if k=j then((dN g o k).map (iY o)).take i++(dN g o k).drop i else dN g o k
def gO(D:Ky→dc)(iN:Nat→List bu):Ky→dc:=fun k=>if k=(1,0)then{D k with cs:=(iN 0).flatMap bF}else if k.1=3 then{D k with cs:=(iN (k.2+1)).flatMap bF}else D k
theorem Fv(g:Gr)(o:List Nat)(j i k:Nat)(hi:i≤(dN g o j).length):(dH g o j i k).length=(dN g o k).length:=by
 unfold dH
 split
 ·rw[wO]
 ·split
  ·rename_i h
   subst h
   rw[wN,wU,wbe,wO];omega
  ·rfl
theorem J7{g:Gr}{o:List Nat}{j i:Nat}{v:bu}(h:(dN g o j)[i]? =some v):(dH g o j i j)[i]? =some v:=by
 have hi:=(wD.1 h).1
 unfold dH
 rw[wI (Nat.lt_irrefl _),wF rfl,waB (by rw[wU,wO];omega),wU,wO,waS (by omega),wbS,wae,waX]
 exact h
theorem Rr{g:Gr}{o:List Nat}{j i:Nat}{v:bu}(h:(dN g o j)[i]? =some v):(dH g o j i j).set i (iY o v)=dH g o j (i+1) j:=by
 have hi:=(wD.1 h).1
 unfold dH
 rw[wI (Nat.lt_irrefl _),wF rfl,wI (Nat.lt_irrefl _),wF rfl]
 refine waR fun t=>?_
 have hm:((dN g o j).map (iY o))[i]? =some (iY o v):=by rw[war,h];rfl
 rw[wca]
 by_cases h1:i=t
 ·subst h1
  rw[wF rfl,wF (by rw[wN,wU,wbe,wO];omega),waf (by rw[wU,wO];omega),wab,wF (by omega),hm]
 ·rw[wI h1]
  by_cases h2:t<i
  ·rw[waf (by rw[wU,wO];omega),waf (by rw[wU,wO];omega),wab,wab,wF h2,wF (by omega)]
  ·rw[waB (by rw[wU,wO];omega),waB (by rw[wU,wO];omega),wU,wU,wO,wae,wae,waS (by omega),waS (by omega)]
   congr 1;omega
theorem zij{g:Gr}{o:List Nat}{j i:Nat}{v:bu}(h:(dN g o j)[i]? =some v)(hk:v.kind≠2)(k:Nat):dH g o j (i+1) k=dH g o j i k:=by
 by_cases e:k=j
 ·subst e
  rw[←Rr h]
  have:iY o v=v:=by unfold iY;rw[wI hk]
  rw[this]
  have h2:=J7 (o:=o) h
  refine waR fun t=>?_
  rw[wca]
  split
  ·rename_i e;subst e
   rw[wF (wD.1 h2).1,h2]
  ·rfl
 ·unfold dH
  rw[wI e,wI e]
theorem Rt{g:Gr}{o:List Nat}{j i i' k:Nat}(e:k≠j):dH g o j i k=dH g o j i' k:=by
 unfold dH
 rw[wI e,wI e]
theorem zik{g:Gr}{o:List Nat}{j k:Nat}:dH g o j (dN g o j).length k=dH g o (j+1) 0 k:=by
 unfold dH
 by_cases h1:k<j
 ·rw[wF h1,wF (by omega)]
 ·rw[wI h1]
  by_cases h2:k=j
  ·subst h2
   rw[wF rfl,wF (by omega),wZ (by rw[wO];omega),wbs (wy _),waw]
  ·rw[wI h2,wI (by omega)]
   by_cases h3:k=j+1
   ·rw[wF h3];simp
   ·rw[wI h3]
theorem Ru{g:Gr}{o:List Nat}{k:Nat}:dH g o 0 0 k=dN g o k:=by
 unfold dH
 rw[wI (by omega)]
 split<;>simp
theorem zil{g:Gr}{o:List Nat}{n k:Nat}(h:k<n):dH g o n 0 k=(dN g o k).map (iY o):=by
 unfold dH;rw[wF h]
def IA(i:Nat):Ky→Prop:=fun k=>k=(1,0)∨k=(0,0)∨(k.1=3∧k.2<i)∨(k.1=4∧k.2<i)
def uG(D:Ky→dc)(g:Gr)(o:List Nat):Heap→List Value→Nat→Prop:=fun _ part t=>part=[.int .i64 (dG g o t).kind,(D (3,t)).v,(D (4,t)).v]
structure ql(g:Gr)(o:List Nat)(D:Ky→dc)(i:Nat):Prop where
 n:(D (0,0)).z=3∧(D (0,0)).n=i∧∀ X,cY (uG D g o) 3 X (D (0,0)).cs (List.range i)
 r:(D (1,0)).z=2∧(D (1,0)).n=g.roots.length∧(D (1,0)).cs=g.roots.flatMap bF
 f:∀ t,t<i→(D (3,t)).z=2∧(D (3,t)).n=(dG g o t).fields.length∧(D (3,t)).cs=(dG g o t).fields.flatMap bF
 w:∀ t,t<i→(D (4,t)).z=1∧(D (4,t)).n=(dG g o t).bC.length∧(D (4,t)).cs=(dG g o t).bC.map wV
theorem zim{b:Nat}{X X':Heap}(g:Gr)(o:List Nat)(hb:b≤X.next)(k:Ko X X'){rv:Value}(hr:OE X.next 2 X' rv g.roots.length (g.roots.flatMap bF)):∃ D,di b X' (IA 0) D∧ql g o D 0∧(D (0,0)).v= .slice none 0 0∧(D (1,0)).v=rv:=by
 obtain⟨go,h1⟩:=(di.nil b X fun _=>⟨0,.slice none 0 0,0,[],none⟩).more k hb hr (i:=(1,0)) (fun h=>h)
 have hn:OE X'.next 3 X' (.slice none 0 0) 0 []:= .inl ⟨none,OS.nil _ _ _⟩
 obtain⟨xM,h2⟩:=h1.more (Ko.refl X') (wK hb k.ag) hn (i:=(0,0)) (by simp)
 refine⟨_,h2.sub fun k hk=>?_,⟨⟨?_,?_,fun X=>?_⟩,⟨?_,?_,?_⟩,fun t h=>by omega,fun t h=>by omega⟩,?_,?_⟩
 ·rcases hk with h|h|h|h
  ·exact .inl (.inr h)
  ·exact .inr h
  ·omega
  ·omega
 ·rw[iM]
 ·rw[iM]
 ·rw[iM];exact cY.nil _ _ _
 ·rw[fi _ _ (by simp),iM]
 ·rw[fi _ _ (by simp),iM]
 ·rw[fi _ _ (by simp),iM]
 ·rw[iM]
 ·rw[fi _ _ (by simp),iM]
theorem zin{b i:Nat}{X X1 X2 X3 X4:Heap}{g:Gr}{o:List Nat}{D:Ky→dc}(h:di b X (IA i) D)(hs:ql g o D i)(hb:b≤X.next)(an:X4.lo≤b)(k1:Ko X X1){fv wv:Value}(k2:Ko X1 X2)(hf:OE X1.next 2 X2 fv (dG g o i).fields.length ((dG g o i).fields.flatMap bF))(k3:Ko X2 X3)(hw:OE X2.next 1 X3 wv (dG g o i).bC.length ((dG g o i).bC.map wV))(k4:Ko X3 X4)(hcf:isCell fv=true)(hcw:isCell wv=true)(hi:i≤900000):
  ∃r c X5 g',appendT 3 56 X4 (D (0,0)).v 1 [.int .i64 (dG g o i).kind,fv,wv]=some (.slice (some ⟨r,0,none⟩) (i+1) c,X5)∧im b g' X4 X5∧∃ D',di b X5 (IA (i+1)) D'∧ql g o D' (i+1)∧(D' (0,0)).v= .slice (some ⟨r,0,none⟩) (i+1) c∧(D' (1,0)).v=(D (1,0)).v:=by
 have fC:=wK hb k1.ag
 have gG:=wK fC k2.ag
 obtain⟨Rv,h1⟩:=(h.ko k1).more k2 fC hf (i:=(3,i)) (by unfold IA;simp)
 obtain⟨xM,h2⟩:=h1.more k3 gG hw (i:=(4,i)) (by unfold IA;simp)
 have h3:=h2.ko k4
 generalize zQ:ti (ti D (3,i) ⟨2,fv,_,_,Rv⟩) (4,i) ⟨1,wv,_,_,xM⟩=D1 at h3
 have e0:D1 (0,0)=D (0,0):=by rw[←zQ,fi _ _ (by simp),fi _ _ (by simp)]
 have e1:D1 (1,0)=D (1,0):=by rw[←zQ,fi _ _ (by simp),fi _ _ (by simp)]
 have e3:D1 (3,i)=⟨2,fv,(dG g o i).fields.length,(dG g o i).fields.flatMap bF,Rv⟩:=by rw[←zQ,fi _ _ (by simp),iM]
 have e4:D1 (4,i)=⟨1,wv,(dG g o i).bC.length,(dG g o i).bC.map wV,xM⟩:=by rw[←zQ,iM]
 have Rw:∀ t,t<i→D1 (3,t)=D (3,t):=fun t ht=>by rw[←zQ,fi _ _ (by simp),fi _ _ (by simp;omega)]
 have Rx:∀ t,t<i→D1 (4,t)=D (4,t):=fun t ht=>by rw[←zQ,fi _ _ (by simp;omega),fi _ _ (by simp)]
 obtain⟨n1,n2,n3⟩:=hs.n
 have hz:(D1 (0,0)).z=3:=by rw[e0,n1]
 have J8:(D1 (0,0)).n=i:=by rw[e0,n2]
 obtain⟨r,c,X5,g',h5,h6,h7⟩:=h3.app (i:=(0,0)) (bytes:=56) (part:=[.int .i64 (dG g o i).kind,fv,wv]) (.inl (.inl (.inr (.inl rfl)))) (wK gG (wK k3.ag k4.ag)) an (by rw[hz];rfl) (by simp[hcf,hcw,Ek]) (by rw[hz,J8];exact JK (by omega))
 rw[hz,J8]at h5
 have ij:(D1 (0,0)).v=(D (0,0)).v:=by rw[e0]
 rw[ij]at h5
 have zio:(D1 (0,0)).cs=(D (0,0)).cs:=by rw[e0]
 rw[hz,J8,zio]at h7
 refine⟨r,c,X5,g',h5,h6,_,h7.sub fun k hk=>?_,⟨⟨?_,?_,fun X=>?_⟩,?_,fun t ht=>?_,fun t ht=>?_⟩,?_,?_⟩
 ·obtain⟨k1,k2⟩:=k
  unfold IA at hk⊢
  simp only[wk]at hk⊢
  omega
 ·rw[iM]
 ·rw[iM]
 ·rw[iM]
  show cY _ 3 X ((D (0,0)).cs++_) _
  rw[List.range_succ]
  have pV:cY (uG (ti D1 (0,0) ⟨3,.slice (some ⟨r,0,none⟩) (i+1) c,i+1,(D (0,0)).cs++[.int .i64 (dG g o i).kind,fv,wv],some g'⟩) g o) 3 X (D (0,0)).cs (List.range i):=by
   obtain⟨q1,q2⟩:=n3 X
   refine⟨q1,fun j t hj=>?_⟩
   obtain⟨part,q3,q4⟩:=q2 j t hj
   refine⟨part,q3,?_⟩
   have ht:t<i:=wcc.1 (wag hj)
   unfold uG at q4⊢
   rw[fi _ _ (by simp),fi _ _ (by simp),Rw t ht,Rx t ht]
   exact q4
  refine pV.snoc rfl ?_
  unfold uG
  rw[fi _ _ (by simp),fi _ _ (by simp),e3,e4]
 ·rw[fi _ _ (by simp),e1];exact hs.r
 ·rw[fi _ _ (by simp)]
  by_cases e:t=i
  ·subst e;rw[e3];exact⟨rfl,rfl,rfl⟩
  ·rw[Rw t (by omega)];exact hs.f t (by omega)
 ·rw[fi _ _ (by simp)]
  by_cases e:t=i
  ·subst e;rw[e4];exact⟨rfl,rfl,rfl⟩
  ·rw[Rx t (by omega)];exact hs.w t (by omega)
 ·rw[iM]
 ·rw[fi _ _ (by simp),e1]
structure uH(H:Heap)(x y:Value)(g:Gr):Prop where
 nodes:eN iz 3 H x g.nodes
 roots:eN cQ 2 H y g.roots
theorem uH.v{H:Heap}{x y:Value}{g:Gr}(h:uH H x y g):eg H x y g:=⟨h.nodes.qX.imp fun _ _ h=>h.nd,h.roots.qX⟩
theorem uH.ext{H H':Heap}{x y:Value}{g:Gr}(h:uH H x y g)(e:gA H H'):uH H' x y g:=⟨h.nodes.ext iz.mono e,h.roots.ext cQ.qg e⟩
def kQ(b:Nat)(X:Heap)(D:Ky→dc)(n:Nat)(lv:Value)(m:Nat):Prop:=
 (m=1∧∃ q,lv= .slice (some ⟨q,0,none⟩) 1 1∧b≤q∧q<X.next∧X.objs.get q=some (.row [(D (1,0)).v] none true))∨
 ∃gl,OS b 1 X lv m ((List.range m).map fun j=>(D (gd j)).v) (some gl)∧∀ k,IA n k→(D k).go≠some gl
section
variable{b n m:Nat}{X X':Heap}{D:Ky→dc}{lv:Value}
theorem kQ.ko(h:kQ b X D n lv m)(k:Ko X X'):kQ b X' D n lv m:=by
 rcases h with⟨h1,q,h2,h3,h4,h5⟩|⟨gl,h1,h2⟩
 ·exact .inl ⟨h1,q,h2,h3,wq h4 k.ag,(k.objs q h4).trans h5⟩
 ·exact .inr ⟨gl,h1.ko k,h2⟩
theorem kQ.fR{g':Nat}(h:kQ b X D n lv m)(e:im b g' X X')(hk:∃ k,IA n k∧(D k).go=some g'):kQ b X' D n lv m:=by
 rcases h with⟨h1,q,h2,h3,h4,h5⟩|⟨gl,h1,h2⟩
 ·exact .inl ⟨h1,q,h2,h3,wq h4 e.ag,e.obj h4 h5 (by simp)⟩
 ·obtain⟨k,k1,k2⟩:=hk
  refine .inr ⟨gl,h1.fR e fun q=>?_,h2⟩
  exact h2 k k1 (k2.trans q.symm)
theorem kQ.form(h:kQ b X D n lv m):∃ r c,lv= .slice (some ⟨r,0,none⟩) m c∧m≤1000000000:=by
 rcases h with⟨rfl,q,h2,_⟩|⟨gl,h1,_⟩
 ·exact⟨q,1,h2,by decide⟩
 ·obtain⟨r,c,_,_,h2,h3,_⟩:=h1
  exact⟨r,c,h2,wK h3.1 h3.2⟩
theorem kQ.get(h:kQ b X D n lv m){j:Nat}(hj:j<m):∃ r c full gg tt,lv= .slice (some ⟨r,0,none⟩) m c∧b≤r∧r<X.next∧X.objs.get r=some (.row full gg tt)∧full[j]? =some (D (gd j)).v:=by
 rcases h with⟨rfl,q,h2,h3,h4,h5⟩|⟨gl,h1,_⟩
 ·have:j=0:=by omega
  subst this
  exact⟨q,1,_,_,_,h2,h3,h4,h5,rfl⟩
 ·obtain⟨r,c,full,aT,h2,h3,h4,h5,h6,_,h8,h9,_⟩:=h1
  refine⟨r,c,full,_,_,h2,h8,h9,h6,?_⟩
  have:=congrArg (fun t:List Value=>t[j]?) h5
  simp only[wab,wF (show j<m*1 by omega),war,wbC hj,waE]at this
  exact this
theorem ziq{I:Ky→Prop}{g':Nat}(h:di b X I D)(e:im b g' X X')(aX:∀ k,I k→(D k).go≠some g'):di b X' I D:=⟨fun i hi=>(h.ae i hi).fR e (aX i hi),h.mE⟩
theorem zir(X:Heap)(z:Nat)(part:List Value):Ko X (X.dd z part):=
 ⟨by rw[gH];omega,fun x hx=>by rw[jj,au (by omega)];rfl,fun x hx=>by rw[lz,au (by omega)];rfl⟩
theorem kQ.app(h:kQ b X D n lv m)(hF:di b X (IA n) D)(hb:b≤X.next)(an:X.lo≤b){x:Value}(hx:(D (gd m)).v=x)(hc:isCell x=true)(hm:m≤1000000):
  ∃r c X' g',appendT 1 24 X lv 1 [x]=some (.slice (some ⟨r,0,none⟩) (m+1) c,X')∧im b g' X X'∧kQ b X' D n (.slice (some ⟨r,0,none⟩) (m+1) c) (m+1)∧di b X' (IA n) D:=by
 have hg:eu 1 24 (m+1)=true:=by simp[eu,kV,cw];omega
 have eD:(List.range (m+1)).map (fun j=>(D (gd j)).v)=(List.range m).map (fun j=>(D (gd j)).v)++[x]:=by rw[List.range_succ,waT,List.map_singleton,hx]
 rcases h with⟨rfl,q,rfl,h3,h4,h5⟩|⟨gl,h1,h2⟩
 ·have e0:Nat.ble (1+1) 1=false:=rfl
  have e1:cut [(D (1,0)).v] 0 (1*1)=some [(D (1,0)).v]:=wE (du _ _ _) rfl
  refine⟨X.next,2,X.dd 1 ([(D (1,0)).v]++[x]),X.next,by simp only[appendT,e0,hg,wa7,wS,h5,e1,wo],E2 hb _,.inr ⟨X.next,?_,fun k hk e=>?_⟩,hF.ko (zir X 1 _)⟩
  ·rw[eD]
   exact OS.dd (n:=2) hb (by decide) rfl
  ·have:=((hF.ae k hk).lt e).2
   omega
 ·obtain⟨v',X',g',e1,e2,e3,e4⟩:=h1.app (bytes:=24) (part:=[x]) hb an rfl (by simp[hc]) hg
  have BL:g'=gl:=by
   rcases e4 with e4|⟨e4,_⟩
   ·cases e4;rfl
   ·cases e4
  subst BL
  obtain⟨r,c,rfl⟩:=CF e2
  refine⟨r,c,X',g',e1,e3,.inr ⟨g',?_,h2⟩,ziq hF e3 h2⟩
  rw[eD];exact e2
end
section
variable{b n:Nat}{X:Heap}{D:Ky→dc}{g:Gr}{o:List Nat}
theorem Fw{j:Nat}(h:j≤n):IA n (gd j):=by
 unfold gd IA
 split
 ·exact .inl rfl
 ·exact .inr (.inr (.inl ⟨rfl,by show j-1<n;omega⟩))
theorem Fy(iN:Nat→List bu)(k:Ky):(gO D iN k).v=(D k).v∧(gO D iN k).go=(D k).go∧(gO D iN k).z=(D k).z∧(gO D iN k).n=(D k).n:=by
 unfold gO
 split
 ·exact⟨rfl,rfl,rfl,rfl⟩
 ·split
  ·exact⟨rfl,rfl,rfl,rfl⟩
  ·exact⟨rfl,rfl,rfl,rfl⟩
theorem J9(iN:Nat→List bu)(j:Nat):(gO D iN (gd j)).cs=(iN j).flatMap bF:=by
 unfold gd
 split
 ·rename_i h;subst h;rfl
 ·rename_i h
  unfold gO
  rw[wI (by simp),wF rfl]
  show(iN (j-1+1)).flatMap bF=_
  rw[show j-1+1=j by omega]
theorem ql.ls(hs:ql g o D n){j:Nat}(hj:j≤n):(D (gd j)).z=2∧(D (gd j)).n=(dN g o j).length:=by
 unfold gd dN
 split
 ·exact⟨hs.r.1,hs.r.2.1⟩
 ·exact⟨(hs.f (j-1) (by omega)).1,(hs.f (j-1) (by omega)).2.1⟩
theorem zis(hs:ql g o D n){k:Ky}(hk:IA n k):D k=gO D (dH g o 0 0) k:=by
 have e:∀ d:dc,∀cs,d.cs=cs→d={d with cs:=cs}:=fun d cs h=>by cases d;simp only at h;subst h;rfl
 unfold gO
 by_cases h1:k=(1,0)
 ·subst h1
  rw[wF rfl]
  refine e _ _ ?_
  rw[Ru]
  exact hs.r.2.2
 ·rw[wI h1]
  by_cases h2:k.1=3
  ·rw[wF h2]
   refine e _ _ ?_
   obtain⟨k1,k2⟩:=k
   subst h2
   have hlt:k2<n:=by
    unfold IA at hk
    simp only[wk]at hk
    omega
   rw[Ru]
   have:=(hs.f k2 hlt).2.2
   rw[this]
   unfold dN
   rw[wI (by simp)]
   rfl
  ·rw[wI h2]
theorem Ry{iN:Nat→List bu}(h:di b X (IA n) (gO D iN))(hs:ql g o D n){j:Nat}(hj:j≤n)(hl:(iN j).length=(dN g o j).length):eN cQ 2 X (D (gd j)).v (iN j):=by
 have h1:=h.ae (gd j) (Fw hj)
 obtain⟨v1,v2,v3,v4⟩:=Fy (D:=D) iN (gd j)
 obtain⟨s1,s2⟩:=hs.ls hj
 have h2:=h1.reads (R:=cQ) (l:=iN j) (by rw[v4,s2];exact hl) (by rw[v3,s1,J9];exact xD)
 rw[v3,s1,v1]at h2
 exact h2
theorem zit{j i:Nat}{v:bu}(h:di b X (IA n) (gO D (dH g o j i)))(hs:ql g o D n)(an:X.lo≤b)(hj:j≤n)(hi:(dN g o j)[i]? =some v)(hk:v.kind=2):
  ∃r c full aT gq X',(D (gd j)).go=some gq∧(D (gd j)).v= .slice (some ⟨r,0,none⟩) (dN g o j).length c∧X.objs.get r=some (.row full (some (gq,2)) true)∧X.grps.get gq=some aT∧X.write r (i*2+1) [.int .i64 (o.idxOf v.x.toNat:Nat)]=some X'∧im b gq X X'∧di b X' (IA n) (gO D (dH g o j (i+1))):=by
 obtain⟨v1,v2,v3,v4⟩:=Fy (D:=D) (dH g o j i) (gd j)
 obtain⟨s1,s2⟩:=hs.ls hj
 have nJ:=(wD.1 hi).1
 have eD:=J9 (D:=D) (dH g o j i) j
 have qB:(dH g o j i j).length=(dN g o j).length:=Fv g o j i j (by omega)
 obtain⟨r,c,full,aT,gq,X',e1,e2,e3,e4,e5,e6,e7⟩:=h.write (Fw hj) (new:=[.int .i64 (o.idxOf v.x.toNat:Nat)]) (o:=i*2+1) an rfl (by simp) (by rw[eD,xC,qB];simp only[wY,waA];omega)
 rw[v2]at e1
 rw[v1,v4,s2]at e2
 rw[v3,s1]at e3
 refine⟨r,c,full,aT,gq,X',e1,e2,e3,e4,e5,e6,e7.congr fun k hkI=>?_⟩
 have pC:over [.int .i64 (o.idxOf v.x.toNat:Nat)] (i*2+1) ((dH g o j i j).flatMap bF)=(dH g o j (i+1) j).flatMap bF:=by
  rw[zih (J7 hi),←Rr hi]
  unfold iY
  rw[wF hk,hk]
 by_cases vd:k=gd j
 ·subst vd
  rw[iM,eD,pC]
  obtain⟨w1,w2,w3,w4⟩:=Fy (D:=D) (dH g o j (i+1)) (gd j)
  have Rz:=J9 (D:=D) (dH g o j (i+1)) j
  generalize hd:gO D (dH g o j (i+1)) (gd j)=d at*
  cases d
  simp only at w1 w2 w3 w4 Rz
  rw[v1,v3,v4,w1,w2,w3,w4,Rz,e1]
 ·rw[fi _ _ vd]
  unfold gO
  by_cases h1:k=(1,0)
  ·subst h1
   rw[wF rfl,wF rfl]
   have hj0:j≠0:=fun e=>vd (by subst e;rfl)
   rw[Rt (i':=i+1) (wbl hj0)]
  ·rw[wI h1,wI h1]
   by_cases h2:k.1=3
   ·rw[wF h2,wF h2]
    have hj1:k.2+1≠j:=fun e=>vd (by
     obtain⟨k1,k2⟩:=k
     simp only at h2 e
     subst h2 e
     rfl)
    rw[Rt (i':=i+1) hj1]
   ·rw[wI h2,wI h2]
theorem ziu{α β:Type}{R:Heap→List Value→α→Prop}{S:Heap→List Value→β→Prop}{z:Nat}{w:Value}{l:List α}(f:α→β)(h:eN R z X w l)(hs:∀ part t,t∈l→R X part t→S X part (f t)):eN S z X w (l.map f):=by
 obtain⟨⟨a,c,h1,h2,h3⟩,hr⟩:=h
 refine⟨⟨a,c,by rw[wO];exact h1,by rw[wO];exact h2,fun i x hi=>?_⟩,hr⟩
 rw[war]at hi
 cases hl:l[i]? with
 |none=>rw[hl]at hi;cases hi
 |some t=>
  rw[hl,waE,wi]at hi
  subst hi
  obtain⟨r,o,cells,g,tt,part,h4,h5,h6,h7,h8⟩:=h3 i t hl
  exact⟨r,o,cells,g,tt,part,h4,h5,h6,h7,hs part t (wag hl) h8⟩
theorem RA{D:Ky→dc}(h:(D (0,0)).ae b X)(hs:ql g o D n):eN (uG D g o) 3 X (D (0,0)).v (List.range n):=by
 obtain⟨n1,n2,n3⟩:=hs.n
 have:=h.reads (R:=uG D g o) (l:=List.range n) (by rw[wb9,n2]) (by rw[n1];exact n3 X)
 rw[n1]at this
 exact this
theorem ziv(h:di b X (IA o.length) (gO D (dH g o (o.length+1) 0)))(hs:ql g o D o.length)(hlt:∀ i∈o,i<g.nodes.length):eN iz 3 X (D (0,0)).v (fz g o).nodes∧eN cQ 2 X (D (1,0)).v (fz g o).roots:=by
 have eJ:∀ j,j≤o.length→eN cQ 2 X (D (gd j)).v ((dN g o j).map (iY o)):=fun j hj=>by
  have:=Ry h hs hj (Fv g o (o.length+1) 0 j (wJ _))
  rw[zil (by omega)]at this
  exact this
 have e00:gO D (dH g o (o.length+1) 0) (0,0)=D (0,0):=by unfold gO;rw[wI (by simp),wI (by simp)]
 have e4:∀ t,gO D (dH g o (o.length+1) 0) (4,t)=D (4,t):=fun t=>by unfold gO;rw[wI (by simp),wI (by simp)]
 refine⟨?_,eJ 0 (wJ _)⟩
 rw[zii hlt]
 have h0:=h.ae (0,0) (.inr (.inl rfl))
 rw[e00]at h0
 refine ziu _ (RA h0 hs) fun part t ht hp=>?_
 have RB:=wcc.1 ht
 unfold uG at hp
 have h3:=eJ (t+1) (by omega)
 have h4:=h.ae (4,t) (.inr (.inr (.inr ⟨rfl,RB⟩)))
 rw[e4]at h4
 obtain⟨w1,w2,w3⟩:=hs.w t RB
 have h5:=h4.reads (R:=RW) (l:=(dG g o t).bC) w2.symm (by rw[w1,w3];exact⟨by simp,fun i x h=>⟨_,Es h,rfl⟩⟩)
 rw[w1]at h5
 exact⟨_,_,hp,h3,h5⟩
theorem RC{iN Ka:Nat→List bu}(h:∀ k,iN k=Ka k):gO D iN=gO D Ka:=by
 have:iN=Ka:=funext h
 rw[this]
end
end Go.AM
