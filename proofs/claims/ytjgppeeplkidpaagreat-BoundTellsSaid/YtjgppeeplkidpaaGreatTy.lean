/-
  Walks over letters of the functions that the law reaches; written small by a program of mine.
-/
import Derived.Test.YtjgppeeplkidpaaGreatAMc
import Derived.Test.YtjgppeeplkidpaaGreatChecked
import Derived.KernelRfl
set_option linter.unusedSimpArgs false
set_option linter.unusedVariables false
set_option linter.unusedSectionVars false
namespace Go.AM
attribute [local instance] fnMaps
open Go Go.Proofs
set_option maxRecDepth 100000
@[irreducible] noncomputable def tyT:Trie TI:=@Env.ty trieMaps (@Env.of trieMaps Tryz.prog)
noncomputable def E:Env:=⟨Tryz.prog,fun k=>Trie.get tyT k,fun k=>Tryz.prog.funcs[k]?,orcOf [(7,.bool true)]⟩
theorem zcV:dH E 2=some none:=kq
theorem zcW:E.size 2=some 1:=kq
theorem zcX(cs:List Value)(o:Nat):jj E 2 cs o=cs[o]? :=kq
theorem eq_2(d:Nat)(a b:Int):eqV E (d+1) 2 (.int .i64 a) (.int .i64 b)=some (eqI a b):=kq
theorem zcY:dH E 3=some none:=kq
theorem zcZ:E.size 3=some 1:=kq
theorem zc0(cs:List Value)(o:Nat):jj E 3 cs o=cs[o]? :=kq
theorem zc1:zeroOf E 3=some (.int .i64 0):=kq
theorem eq_3(d:Nat)(a b:Int):eqV E (d+1) 3 (.int .i64 a) (.int .i64 b)=some (eqI a b):=kq
theorem zc2:dH E 4=some none:=kq
theorem zc3:E.size 4=some 1:=kq
theorem zc4:zeroOf E 4=some (.bool false):=kq
theorem eq_4(d:Nat)(a b:Bool):eqV E (d+1) 4 (.bool a) (.bool b)=some (a==b):=kq
theorem zc5:dH E 23=some (some 4):=kq
theorem zc6(r o:Nat):fieldAddrV E 23 (ptr r o) 0=some (ptr r (o+0)):=kq
theorem zc7(r o:Nat):fieldAddrV E 23 (ptr r o) 1=some (ptr r (o+1)):=kq
theorem zc8(r o:Nat):fieldAddrV E 23 (ptr r o) 2=some (ptr r (o+2)):=kq
theorem zc9(r o:Nat):fieldAddrV E 23 (ptr r o) 3=some (ptr r (o+3)):=kq
theorem zda:dH E 24=some none:=kq
theorem zdb:E.size 24=some 1:=kq
theorem zdc(r o n c:Nat)(k:IntKind)(i:Int):indexAddrV E 24 (.slice (some ⟨r,o,none⟩) n c) (.int k i)=(at? i n).bind fun i=>some (ptr r (o+i*1)):=kq
theorem zdd(H:Heap)(r o n c:Nat)(lo hi mx:Option Value):sliceV E H 24 (.slice (some ⟨r,o,none⟩) n c) lo hi mx=xO E H 1 r o n c lo hi mx:=kq
theorem zde(H:Heap)(a:Option Addr)(n c:Nat):builtinV E H .len [24] [.slice a n c]=some (.int .i64 n,H):=kq
theorem zdf(H:Heap)(s:Value)(a:Option Addr)(n c:Nat):builtinV E H .append [24,24] [s,.slice a n c]=(cellsOf H (n*1) (.slice a n c)).bind fun l=>appendV E H 56 s n l:=kq
theorem zdg(H:Heap)(s:Value)(k:Nat)(new:List Value):appendV E H 56 s k new=appendT 1 8 H s k new:=kq
theorem zdh(T:Tr Value)(H:Heap)(len:Nat)(ps:List (Nat×Operand)):se E T H 24 len ps=bif (!Nat.ble (len*1) 10000000||false)then none else(evParts T (fun k=>some (k*1,1)) ps).bind fun ps=>(fillV (dr [(.int .u64 0)] len) ps).bind fun l=>some (.slice (some ⟨H.next,0,none⟩) len len,H.newRow l):=kq
theorem zdi(d:Nat)(a:Option Addr)(n c n' c':Nat):eqV E (d+1) 24 (.slice none n c) (.slice a n' c')=some a.isNone:=kq
theorem zdj:dH E 25=some none:=kq
theorem zdk:E.size 25=some 1:=kq
theorem zdl:zeroOf E 25=some (.slice none 0 0):=kq
theorem zdm(r o n c:Nat)(k:IntKind)(i:Int):indexAddrV E 25 (.slice (some ⟨r,o,none⟩) n c) (.int k i)=(at? i n).bind fun i=>some (ptr r (o+i*2)):=kq
theorem zdn(H:Heap)(r o n c:Nat)(lo hi mx:Option Value):sliceV E H 25 (.slice (some ⟨r,o,none⟩) n c) lo hi mx=xO E H 2 r o n c lo hi mx:=kq
theorem zdo(H:Heap)(a:Option Addr)(n c:Nat):builtinV E H .len [25] [.slice a n c]=some (.int .i64 n,H):=kq
theorem zdp(H:Heap)(s:Value)(a:Option Addr)(n c:Nat):builtinV E H .append [25,25] [s,.slice a n c]=(cellsOf H (n*2) (.slice a n c)).bind fun l=>appendV E H 85 s n l:=kq
theorem zdq(H:Heap)(s:Value)(k:Nat)(new:List Value):appendV E H 85 s k new=appendT 2 16 H s k new:=kq
theorem zdr(T:Tr Value)(H:Heap)(len:Nat)(ps:List (Nat×Operand)):se E T H 25 len ps=bif (!Nat.ble (len*2) 10000000||false)then none else(evParts T (fun k=>some (k*2,2)) ps).bind fun ps=>(fillV (dr [(.int .i64 0),(.int .i64 0)] len) ps).bind fun l=>some (.slice (some ⟨H.next,0,none⟩) len len,H.newRow l):=kq
theorem zds(d:Nat)(a:Option Addr)(n c n' c':Nat):eqV E (d+1) 25 (.slice none n c) (.slice a n' c')=some a.isNone:=kq
theorem zdt:dH E 26=some none:=kq
theorem zdu(r o n c:Nat)(k:IntKind)(i:Int):indexAddrV E 26 (.slice (some ⟨r,o,none⟩) n c) (.int k i)=(at? i n).bind fun i=>some (ptr r (o+i*3)):=kq
theorem zdv(H:Heap)(a:Option Addr)(n c:Nat):builtinV E H .len [26] [.slice a n c]=some (.int .i64 n,H):=kq
theorem zdw:dH E 28=some (some 10):=kq
theorem zdx(r o:Nat):fieldAddrV E 28 (ptr r o) 0=some (ptr r (o+0)):=kq
theorem zdy(r o:Nat):fieldAddrV E 28 (ptr r o) 1=some (ptr r (o+4)):=kq
theorem zdz(r o:Nat):fieldAddrV E 28 (ptr r o) 2=some (ptr r (o+5)):=kq
theorem zdA(r o:Nat):fieldAddrV E 28 (ptr r o) 3=some (ptr r (o+6)):=kq
theorem zdB(r o:Nat):fieldAddrV E 28 (ptr r o) 4=some (ptr r (o+7)):=kq
theorem zdC(r o:Nat):fieldAddrV E 28 (ptr r o) 5=some (ptr r (o+8)):=kq
theorem zdD(r o:Nat):fieldAddrV E 28 (ptr r o) 6=some (ptr r (o+9)):=kq
theorem zdE:dH E 30=some (some 5):=kq
theorem zdF:E.size 30=some 5:=kq
theorem zdG:zeroOf E 30=some (.agg #[(.int .i64 0),(.int .i64 0),(.int .i64 0),(.int .i64 0),(.int .i64 0)]):=kq
theorem zdH(r o:Nat):fieldAddrV E 30 (ptr r o) 0=some (ptr r (o+0)):=kq
theorem zdI(r o:Nat):fieldAddrV E 30 (ptr r o) 1=some (ptr r (o+1)):=kq
theorem zdJ(r o:Nat):fieldAddrV E 30 (ptr r o) 2=some (ptr r (o+2)):=kq
theorem zdK(r o:Nat):fieldAddrV E 30 (ptr r o) 3=some (ptr r (o+3)):=kq
theorem zdL(r o:Nat):fieldAddrV E 30 (ptr r o) 4=some (ptr r (o+4)):=kq
theorem zdM(T:Tr Value)(ps:List (Nat×Operand)):gm E T 30 ps=(evParts T (fun k=>[(0,1),(1,1),(2,1),(3,1),(4,1)][k]?) ps).bind fun ps=>(fillV [(.int .i64 0),(.int .i64 0),(.int .i64 0),(.int .i64 0),(.int .i64 0)] ps).bind fun l=>some (.agg l.toArray):=kq
theorem eq_30(d:Nat)(xs ys:Array Value):eqV E (d+1) 30 (.agg xs) (.agg ys)=eqFields E (eqV E d) xs.toList ys.toList [(0,3),(1,3),(2,3),(3,3),(4,3)]:=kq
theorem zdN:dH E 33=some none:=kq
theorem zdO:E.size 33=some 1:=kq
theorem zdP:zeroOf E 33=some (.int .i64 0):=kq
theorem zdQ:dH E 45=some none:=kq
theorem zdR:E.size 45=some 1:=kq
theorem zdS:zeroOf E 45=some (.slice none 0 0):=kq
theorem zdT(r o n c:Nat)(k:IntKind)(i:Int):indexAddrV E 45 (.slice (some ⟨r,o,none⟩) n c) (.int k i)=(at? i n).bind fun i=>some (ptr r (o+i*1)):=kq
theorem zdU(H:Heap)(r o n c:Nat)(lo hi mx:Option Value):sliceV E H 45 (.slice (some ⟨r,o,none⟩) n c) lo hi mx=xO E H 1 r o n c lo hi mx:=kq
theorem zdV(H:Heap)(a:Option Addr)(n c:Nat):builtinV E H .len [45] [.slice a n c]=some (.int .i64 n,H):=kq
theorem zdW(H:Heap)(s:Value)(a:Option Addr)(n c:Nat):builtinV E H .append [45,45] [s,.slice a n c]=(cellsOf H (n*1) (.slice a n c)).bind fun l=>appendV E H 3 s n l:=kq
theorem zdX(H:Heap)(s:Value)(k:Nat)(new:List Value):appendV E H 3 s k new=appendT 1 8 H s k new:=kq
theorem zdY(T:Tr Value)(H:Heap)(len:Nat)(ps:List (Nat×Operand)):se E T H 45 len ps=bif (!Nat.ble (len*1) 10000000||false)then none else(evParts T (fun k=>some (k*1,1)) ps).bind fun ps=>(fillV (dr [(.int .i64 0)] len) ps).bind fun l=>some (.slice (some ⟨H.next,0,none⟩) len len,H.newRow l):=kq
theorem zdZ(d:Nat)(a:Option Addr)(n c n' c':Nat):eqV E (d+1) 45 (.slice none n c) (.slice a n' c')=some a.isNone:=kq
theorem zd0:dH E 56=some none:=kq
theorem zd1:dH E 58=some (some 3):=kq
theorem zd2:E.size 58=some 3:=kq
theorem zd3:zeroOf E 58=some (.agg #[(.bool false),(.int .i64 0),(.int .u64 0)]):=kq
theorem zd4(r o:Nat):fieldAddrV E 58 (ptr r o) 0=some (ptr r (o+0)):=kq
theorem zd5(r o:Nat):fieldAddrV E 58 (ptr r o) 1=some (ptr r (o+1)):=kq
theorem zd6(r o:Nat):fieldAddrV E 58 (ptr r o) 2=some (ptr r (o+2)):=kq
theorem zd7:dH E 59=some none:=kq
theorem zd8:E.size 59=some 1:=kq
theorem zd9(r o n c:Nat)(k:IntKind)(i:Int):indexAddrV E 59 (.slice (some ⟨r,o,none⟩) n c) (.int k i)=(at? i n).bind fun i=>some (ptr r (o+i*3)):=kq
theorem zea(H:Heap)(a:Option Addr)(n c:Nat):builtinV E H .len [59] [.slice a n c]=some (.int .i64 n,H):=kq
theorem zeb(H:Heap)(s:Value)(a:Option Addr)(n c:Nat):builtinV E H .append [59,59] [s,.slice a n c]=(cellsOf H (n*3) (.slice a n c)).bind fun l=>appendV E H 70 s n l:=kq
theorem zec(H:Heap)(s:Value)(k:Nat)(new:List Value):appendV E H 70 s k new=appendT 3 56 H s k new:=kq
theorem zed(T:Tr Value)(H:Heap)(len:Nat)(ps:List (Nat×Operand)):se E T H 59 len ps=bif (!Nat.ble (len*3) 10000000||false)then none else(evParts T (fun k=>some (k*3,3)) ps).bind fun ps=>(fillV (dr [(.int .i64 0),(.slice none 0 0),(.slice none 0 0)] len) ps).bind fun l=>some (.slice (some ⟨H.next,0,none⟩) len len,H.newRow l):=kq
theorem zee:dH E 60=some none:=kq
theorem zef:E.size 60=some 1:=kq
theorem zeg(r o n c:Nat)(k:IntKind)(i:Int):indexAddrV E 60 (.slice (some ⟨r,o,none⟩) n c) (.int k i)=(at? i n).bind fun i=>some (ptr r (o+i*2)):=kq
theorem zeh(H:Heap)(a:Option Addr)(n c:Nat):builtinV E H .len [60] [.slice a n c]=some (.int .i64 n,H):=kq
theorem zei(H:Heap)(s:Value)(a:Option Addr)(n c:Nat):builtinV E H .append [60,60] [s,.slice a n c]=(cellsOf H (n*2) (.slice a n c)).bind fun l=>appendV E H 92 s n l:=kq
theorem zej(H:Heap)(s:Value)(k:Nat)(new:List Value):appendV E H 92 s k new=appendT 2 16 H s k new:=kq
theorem zek(T:Tr Value)(H:Heap)(len:Nat)(ps:List (Nat×Operand)):se E T H 60 len ps=bif (!Nat.ble (len*2) 10000000||false)then none else(evParts T (fun k=>some (k*2,2)) ps).bind fun ps=>(fillV (dr [(.int .i64 0),(.int .i64 0)] len) ps).bind fun l=>some (.slice (some ⟨H.next,0,none⟩) len len,H.newRow l):=kq
theorem zel(d:Nat)(a:Option Addr)(n c n' c':Nat):eqV E (d+1) 60 (.slice none n c) (.slice a n' c')=some a.isNone:=kq
theorem zem:dH E 62=some (some 2):=kq
theorem zen:E.size 62=some 2:=kq
theorem zeo:zeroOf E 62=some (.agg #[(.slice none 0 0),(.slice none 0 0)]):=kq
theorem zep(r o:Nat):fieldAddrV E 62 (ptr r o) 0=some (ptr r (o+0)):=kq
theorem zeq(r o:Nat):fieldAddrV E 62 (ptr r o) 1=some (ptr r (o+1)):=kq
theorem zer(T:Tr Value)(ps:List (Nat×Operand)):gm E T 62 ps=(evParts T (fun k=>[(0,1),(1,1)][k]?) ps).bind fun ps=>(fillV [(.slice none 0 0),(.slice none 0 0)] ps).bind fun l=>some (.agg l.toArray):=kq
theorem zes:dH E 70=some (some 3):=kq
theorem zet:E.size 70=some 3:=kq
theorem zeu:zeroOf E 70=some (.agg #[(.int .i64 0),(.slice none 0 0),(.slice none 0 0)]):=kq
theorem zev(r o:Nat):fieldAddrV E 70 (ptr r o) 0=some (ptr r (o+0)):=kq
theorem zew(r o:Nat):fieldAddrV E 70 (ptr r o) 1=some (ptr r (o+1)):=kq
theorem zex(r o:Nat):fieldAddrV E 70 (ptr r o) 2=some (ptr r (o+2)):=kq
theorem zey(T:Tr Value)(ps:List (Nat×Operand)):gm E T 70 ps=(evParts T (fun k=>[(0,1),(1,1),(2,1)][k]?) ps).bind fun ps=>(fillV [(.int .i64 0),(.slice none 0 0),(.slice none 0 0)] ps).bind fun l=>some (.agg l.toArray):=kq
theorem zez:dH E 85=some (some 2):=kq
theorem zeA:E.size 85=some 2:=kq
theorem zeB(cs:List Value)(o:Nat):jj E 85 cs o=(cut cs o 2).bind fun l=>some (.agg l.toArray):=kq
theorem zeC:zeroOf E 85=some (.agg #[(.int .i64 0),(.int .i64 0)]):=kq
theorem zeD(r o:Nat):fieldAddrV E 85 (ptr r o) 0=some (ptr r (o+0)):=kq
theorem zeE(r o:Nat):fieldAddrV E 85 (ptr r o) 1=some (ptr r (o+1)):=kq
theorem zeF(T:Tr Value)(ps:List (Nat×Operand)):gm E T 85 ps=(evParts T (fun k=>[(0,1),(1,1)][k]?) ps).bind fun ps=>(fillV [(.int .i64 0),(.int .i64 0)] ps).bind fun l=>some (.agg l.toArray):=kq
theorem zeG(d:Nat)(xs ys:Array Value):eqV E (d+1) 85 (.agg xs) (.agg ys)=eqFields E (eqV E d) xs.toList ys.toList [(0,3),(1,3)]:=kq
theorem zeH:dH E 90=some none:=kq
theorem zeI:E.size 90=some 1:=kq
theorem zeJ(r o n c:Nat)(k:IntKind)(i:Int):indexAddrV E 90 (.slice (some ⟨r,o,none⟩) n c) (.int k i)=(at? i n).bind fun i=>some (ptr r (o+i*1)):=kq
theorem zeK(H:Heap)(s:Value)(a:Option Addr)(n c:Nat):builtinV E H .append [90,90] [s,.slice a n c]=(cellsOf H (n*1) (.slice a n c)).bind fun l=>appendV E H 4 s n l:=kq
theorem zeL(H:Heap)(s:Value)(k:Nat)(new:List Value):appendV E H 4 s k new=appendT 1 1 H s k new:=kq
theorem zeM(T:Tr Value)(H:Heap)(len:Nat)(ps:List (Nat×Operand)):se E T H 90 len ps=bif (!Nat.ble (len*1) 10000000||false)then none else(evParts T (fun k=>some (k*1,1)) ps).bind fun ps=>(fillV (dr [(.bool false)] len) ps).bind fun l=>some (.slice (some ⟨H.next,0,none⟩) len len,H.newRow l):=kq
theorem zeN:dH E 92=some (some 2):=kq
theorem zeO:E.size 92=some 2:=kq
theorem zeP:zeroOf E 92=some (.agg #[(.int .i64 0),(.int .i64 0)]):=kq
theorem zeQ(r o:Nat):fieldAddrV E 92 (ptr r o) 0=some (ptr r (o+0)):=kq
theorem zeR(r o:Nat):fieldAddrV E 92 (ptr r o) 1=some (ptr r (o+1)):=kq
theorem zeS(T:Tr Value)(ps:List (Nat×Operand)):gm E T 92 ps=(evParts T (fun k=>[(0,1),(1,1)][k]?) ps).bind fun ps=>(fillV [(.int .i64 0),(.int .i64 0)] ps).bind fun l=>some (.agg l.toArray):=kq
theorem zeT(d:Nat)(xs ys:Array Value):eqV E (d+1) 92 (.agg xs) (.agg ys)=eqFields E (eqV E d) xs.toList ys.toList [(0,3),(1,2)]:=kq
theorem zeU:dH E 112=some none:=kq
theorem zeV:E.size 112=some 1:=kq
theorem zeW:zeroOf E 112=some (.map none):=kq
theorem zeX:dH E 117=some (some 5):=kq
theorem zeY:E.size 117=some 5:=kq
theorem zeZ:zeroOf E 117=some (.agg #[(.int .i64 0),(.int .i64 0),(.int .i64 0),(.bool false),(.int .i64 0)]):=kq
theorem ze0(r o:Nat):fieldAddrV E 117 (ptr r o) 0=some (ptr r (o+0)):=kq
theorem ze1(r o:Nat):fieldAddrV E 117 (ptr r o) 1=some (ptr r (o+1)):=kq
theorem ze2(r o:Nat):fieldAddrV E 117 (ptr r o) 2=some (ptr r (o+2)):=kq
theorem ze3(r o:Nat):fieldAddrV E 117 (ptr r o) 3=some (ptr r (o+3)):=kq
theorem ze4(r o:Nat):fieldAddrV E 117 (ptr r o) 4=some (ptr r (o+4)):=kq
theorem ze5(T:Tr Value)(ps:List (Nat×Operand)):gm E T 117 ps=(evParts T (fun k=>[(0,1),(1,1),(2,1),(3,1),(4,1)][k]?) ps).bind fun ps=>(fillV [(.int .i64 0),(.int .i64 0),(.int .i64 0),(.bool false),(.int .i64 0)] ps).bind fun l=>some (.agg l.toArray):=kq
theorem ze6(r o:Nat):fieldAddrV E 129 (ptr r o) 0=some (ptr r (o+0)):=kq
theorem ze7(r o:Nat):fieldAddrV E 129 (ptr r o) 1=some (ptr r (o+2)):=kq
theorem ze8(r o:Nat):fieldAddrV E 129 (ptr r o) 3=some (ptr r (o+4)):=kq
theorem ze9(r o:Nat):fieldAddrV E 129 (ptr r o) 4=some (ptr r (o+5)):=kq
theorem zfa(r o:Nat):fieldAddrV E 129 (ptr r o) 5=some (ptr r (o+6)):=kq
theorem zfb(r o:Nat):fieldAddrV E 129 (ptr r o) 6=some (ptr r (o+7)):=kq
theorem zfc(r o:Nat):fieldAddrV E 129 (ptr r o) 7=some (ptr r (o+8)):=kq
theorem zfd(r o:Nat):fieldAddrV E 129 (ptr r o) 8=some (ptr r (o+9)):=kq
theorem zfe(T:Tr Value)(ps:List (Nat×Operand)):gm E T 129 ps=(evParts T (fun k=>[(0,2),(2,1),(3,1),(4,1),(5,1),(6,1),(7,1),(8,1),(9,1)][k]?) ps).bind fun ps=>(fillV [(.slice none 0 0),(.slice none 0 0),(.int .i64 0),(.int .i64 0),(.slice none 0 0),(.slice none 0 0),(.slice none 0 0),(.slice none 0 0),(.slice none 0 0),(.int .i64 0)] ps).bind fun l=>some (.agg l.toArray):=kq
theorem zff(cs:Array Value)(k:IntKind)(i:Int):indexV E 130 (.agg cs) (.int k i)=(at? i 4).bind fun i=>jj E 3 cs.toList (i*1):=kq
theorem zfg(T:Tr Value)(ps:List (Nat×Operand)):gm E T 130 ps=(evParts T (fun k=>some (k*1,1)) ps).bind fun ps=>(fillV [(.int .i64 0),(.int .i64 0),(.int .i64 0),(.int .i64 0)] ps).bind fun l=>some (.agg l.toArray):=kq
theorem zfh:dH E 161=some (some 6):=kq
theorem zfi:E.size 161=some 6:=kq
theorem zfj:zeroOf E 161=some (.agg #[(.int .i64 0),(.int .i64 0),(.int .i64 0),(.int .i64 0),(.int .i64 0),(.int .i64 0)]):=kq
theorem zfk(cs:Array Value)(k:IntKind)(i:Int):indexV E 161 (.agg cs) (.int k i)=(at? i 3).bind fun i=>jj E 85 cs.toList (i*2):=kq
theorem zfl(T:Tr Value)(ps:List (Nat×Operand)):gm E T 161 ps=(evParts T (fun k=>some (k*2,2)) ps).bind fun ps=>(fillV [(.int .i64 0),(.int .i64 0),(.int .i64 0),(.int .i64 0),(.int .i64 0),(.int .i64 0)] ps).bind fun l=>some (.agg l.toArray):=kq
theorem zfm:dH E 167=some none:=kq
theorem zfn:E.size 167=some 1:=kq
theorem Ow(d r o:Nat):eqV E (d+1) 167 (ptr r o) (.pointer none)=some false:=kq
theorem zfo:dH E 168=some none:=kq
theorem zfp:E.size 168=some 1:=kq
theorem zfq(r o:Nat):fieldAddrV E 170 (ptr r o) 0=some (ptr r (o+0)):=kq
theorem zfr(r o:Nat):fieldAddrV E 170 (ptr r o) 1=some (ptr r (o+10)):=kq
theorem zfs(r o:Nat):fieldAddrV E 170 (ptr r o) 2=some (ptr r (o+11)):=kq
theorem zft(r o:Nat):fieldAddrV E 170 (ptr r o) 3=some (ptr r (o+12)):=kq
theorem zfu(T:Tr Value)(ps:List (Nat×Operand)):gm E T 170 ps=(evParts T (fun k=>[(0,10),(10,1),(11,1),(12,1)][k]?) ps).bind fun ps=>(fillV [(.int .i64 0),(.int .i64 0),(.int .i64 0),(.int .i64 0),(.bool false),(.slice none 0 0),(.int .i64 0),(.slice none 0 0),(.slice none 0 0),(.slice none 0 0),(.pointer none),(.slice none 0 0),(.map none)] ps).bind fun l=>some (.agg l.toArray):=kq
theorem zfv:E.size 210=some 4:=kq
theorem zfw:zeroOf E 210=some (.agg #[(.int .i64 0),(.int .i64 0),(.int .i64 0),(.int .i64 0)]):=kq
theorem zfx(r o:Nat)(k:IntKind)(i:Int):indexAddrV E 210 (ptr r o) (.int k i)=(at? i 2).bind fun i=>some (ptr r (o+i*2)):=kq
theorem zfy(T:Tr Value)(ps:List (Nat×Operand)):gm E T 210 ps=(evParts T (fun k=>some (k*2,2)) ps).bind fun ps=>(fillV [(.int .i64 0),(.int .i64 0),(.int .i64 0),(.int .i64 0)] ps).bind fun l=>some (.agg l.toArray):=kq
theorem zfz(r o n c:Nat)(k:IntKind)(i:Int):indexAddrV E 211 (.slice (some ⟨r,o,none⟩) n c) (.int k i)=(at? i n).bind fun i=>some (ptr r (o+i*1)):=kq
theorem zfA(H:Heap)(a:Option Addr)(n c:Nat):builtinV E H .len [211] [.slice a n c]=some (.int .i64 n,H):=kq
theorem zfB(T:Tr Value)(H:Heap)(len:Nat)(ps:List (Nat×Operand)):se E T H 211 len ps=bif (!Nat.ble (len*1) 10000000||false)then none else(evParts T (fun k=>some (k*1,1)) ps).bind fun ps=>(fillV (dr [.nilFunc] len) ps).bind fun l=>some (.slice (some ⟨H.next,0,none⟩) len len,H.newRow l):=kq
theorem zfC:dH E 214=some none:=kq
theorem zfD:dH E 215=some (some 5):=kq
theorem zfE:E.size 215=some 5:=kq
theorem zfF:zeroOf E 215=some (.agg #[(.int .i64 0),(.int .i64 0),(.int .i64 0),(.int .i64 0),(.int .i64 0)]):=kq
theorem zfG(r o:Nat)(k:IntKind)(i:Int):indexAddrV E 215 (ptr r o) (.int k i)=(at? i 5).bind fun i=>some (ptr r (o+i*1)):=kq
theorem zfH(T:Tr Value)(ps:List (Nat×Operand)):gm E T 215 ps=(evParts T (fun k=>some (k*1,1)) ps).bind fun ps=>(fillV [(.int .i64 0),(.int .i64 0),(.int .i64 0),(.int .i64 0),(.int .i64 0)] ps).bind fun l=>some (.agg l.toArray):=kq
theorem zfI:E.size 217=some 3:=kq
theorem zfJ(cs:List Value)(o:Nat):jj E 217 cs o=(cut cs o 3).bind fun l=>some (.agg l.toArray):=kq
theorem zfK:zeroOf E 217=some (.agg #[(.int .i64 0),(.int .i64 0),(.int .i64 0)]):=kq
theorem zfL(r o:Nat):fieldAddrV E 217 (ptr r o) 0=some (ptr r (o+0)):=kq
theorem zfM(r o:Nat):fieldAddrV E 217 (ptr r o) 1=some (ptr r (o+1)):=kq
theorem zfN(r o:Nat):fieldAddrV E 217 (ptr r o) 2=some (ptr r (o+2)):=kq
theorem zfO(T:Tr Value)(ps:List (Nat×Operand)):gm E T 217 ps=(evParts T (fun k=>[(0,1),(1,1),(2,1)][k]?) ps).bind fun ps=>(fillV [(.int .i64 0),(.int .i64 0),(.int .i64 0)] ps).bind fun l=>some (.agg l.toArray):=kq
theorem zfP:dH E 218=some (some 15):=kq
theorem zfQ:E.size 218=some 15:=kq
theorem zfR:zeroOf E 218=some (.agg #[(.int .i64 0),(.int .i64 0),(.int .i64 0),(.int .i64 0),(.int .i64 0),(.int .i64 0),(.int .i64 0),(.int .i64 0),(.int .i64 0),(.int .i64 0),(.int .i64 0),(.int .i64 0),(.int .i64 0),(.int .i64 0),(.int .i64 0)]):=kq
theorem zfS(cs:Array Value)(k:IntKind)(i:Int):indexV E 218 (.agg cs) (.int k i)=(at? i 5).bind fun i=>jj E 217 cs.toList (i*3):=kq
theorem zfT(T:Tr Value)(ps:List (Nat×Operand)):gm E T 218 ps=(evParts T (fun k=>some (k*3,3)) ps).bind fun ps=>(fillV [(.int .i64 0),(.int .i64 0),(.int .i64 0),(.int .i64 0),(.int .i64 0),(.int .i64 0),(.int .i64 0),(.int .i64 0),(.int .i64 0),(.int .i64 0),(.int .i64 0),(.int .i64 0),(.int .i64 0),(.int .i64 0),(.int .i64 0)] ps).bind fun l=>some (.agg l.toArray):=kq
theorem zfU:dH E 290=some none:=kq
theorem zfV(r o:Nat):fieldAddrV E 292 (ptr r o) 0=some (ptr r (o+0)):=kq
theorem zfW(r o:Nat):fieldAddrV E 292 (ptr r o) 1=some (ptr r (o+2)):=kq
theorem zfX(r o:Nat):fieldAddrV E 292 (ptr r o) 2=some (ptr r (o+3)):=kq
theorem zfY(r o:Nat):fieldAddrV E 292 (ptr r o) 3=some (ptr r (o+4)):=kq
theorem zfZ(r o:Nat):fieldAddrV E 292 (ptr r o) 4=some (ptr r (o+5)):=kq
theorem zf0(r o:Nat):fieldAddrV E 292 (ptr r o) 5=some (ptr r (o+6)):=kq
theorem zf1(r o:Nat):fieldAddrV E 292 (ptr r o) 6=some (ptr r (o+7)):=kq
theorem zf2(r o:Nat):fieldAddrV E 292 (ptr r o) 7=some (ptr r (o+8)):=kq
theorem zf3(r o:Nat):fieldAddrV E 292 (ptr r o) 8=some (ptr r (o+9)):=kq
theorem zf4(r o:Nat):fieldAddrV E 292 (ptr r o) 9=some (ptr r (o+10)):=kq
theorem zf5(r o:Nat):fieldAddrV E 292 (ptr r o) 11=some (ptr r (o+12)):=kq
theorem zf6(T:Tr Value)(ps:List (Nat×Operand)):gm E T 292 ps=(evParts T (fun k=>[(0,2),(2,1),(3,1),(4,1),(5,1),(6,1),(7,1),(8,1),(9,1),(10,1),(11,1),(12,1)][k]?) ps).bind fun ps=>(fillV [(.slice none 0 0),(.slice none 0 0),(.int .i64 0),(.int .i64 0),(.slice none 0 0),(.slice none 0 0),(.slice none 0 0),(.slice none 0 0),(.int .i64 0),(.slice none 0 0),(.map none),(.int .i64 0),(.slice none 0 0)] ps).bind fun l=>some (.agg l.toArray):=kq
theorem zf7:dH E 293=some none:=kq
theorem zf8:E.size 293=some 1:=kq
theorem zf9:zeroOf E 293=some (.int .u64 0):=kq
theorem zga(r o:Nat):fieldAddrV E 300 (ptr r o) 0=some (ptr r (o+0)):=kq
theorem zgb(r o:Nat):fieldAddrV E 300 (ptr r o) 1=some (ptr r (o+1)):=kq
theorem zgc(T:Tr Value)(ps:List (Nat×Operand)):gm E T 300 ps=(evParts T (fun k=>[(0,1),(1,1)][k]?) ps).bind fun ps=>(fillV [(.bool false),(.slice none 0 0)] ps).bind fun l=>some (.agg l.toArray):=kq
theorem zgd:E.size 350=some 8:=kq
theorem zge:zeroOf E 350=some (.agg #[(.int .i64 0),(.int .i64 0),(.int .i64 0),(.int .i64 0),(.bool false),(.int .i64 0),(.int .i64 0),(.bool false)]):=kq
theorem zgf(r o:Nat):fieldAddrV E 350 (ptr r o) 0=some (ptr r (o+0)):=kq
theorem zgg(r o:Nat):fieldAddrV E 350 (ptr r o) 2=some (ptr r (o+6)):=kq
theorem zgh(r o:Nat):fieldAddrV E 350 (ptr r o) 3=some (ptr r (o+7)):=kq
theorem zgi(T:Tr Value)(ps:List (Nat×Operand)):gm E T 350 ps=(evParts T (fun k=>[(0,1),(1,5),(6,1),(7,1)][k]?) ps).bind fun ps=>(fillV [(.int .i64 0),(.int .i64 0),(.int .i64 0),(.int .i64 0),(.bool false),(.int .i64 0),(.int .i64 0),(.bool false)] ps).bind fun l=>some (.agg l.toArray):=kq
theorem zgj(r o:Nat):fieldAddrV E 368 (ptr r o) 0=some (ptr r (o+0)):=kq
theorem zgk(r o:Nat):fieldAddrV E 368 (ptr r o) 1=some (ptr r (o+1)):=kq
theorem zgl(T:Tr Value)(ps:List (Nat×Operand)):gm E T 368 ps=(evParts T (fun k=>[(0,1),(1,1)][k]?) ps).bind fun ps=>(fillV [(.slice none 0 0),(.int .i64 0)] ps).bind fun l=>some (.agg l.toArray):=kq
theorem zgm(r o n c:Nat)(k:IntKind)(i:Int):indexAddrV E 369 (.slice (some ⟨r,o,none⟩) n c) (.int k i)=(at? i n).bind fun i=>some (ptr r (o+i*2)):=kq
theorem zgn(H:Heap)(r o n c:Nat)(lo hi mx:Option Value):sliceV E H 369 (.slice (some ⟨r,o,none⟩) n c) lo hi mx=xO E H 2 r o n c lo hi mx:=kq
theorem zgo(H:Heap)(a:Option Addr)(n c:Nat):builtinV E H .len [369] [.slice a n c]=some (.int .i64 n,H):=kq
theorem zgp(H:Heap)(s:Value)(a:Option Addr)(n c:Nat):builtinV E H .append [369,369] [s,.slice a n c]=(cellsOf H (n*2) (.slice a n c)).bind fun l=>appendV E H 368 s n l:=kq
theorem zgq(H:Heap)(s:Value)(k:Nat)(new:List Value):appendV E H 368 s k new=appendT 2 32 H s k new:=kq
theorem zgr(T:Tr Value)(H:Heap)(len:Nat)(ps:List (Nat×Operand)):se E T H 369 len ps=bif (!Nat.ble (len*2) 10000000||false)then none else(evParts T (fun k=>some (k*2,2)) ps).bind fun ps=>(fillV (dr [(.slice none 0 0),(.int .i64 0)] len) ps).bind fun l=>some (.slice (some ⟨H.next,0,none⟩) len len,H.newRow l):=kq
theorem zgs(H:Heap)(k:IntKind)(n:Int):nM E H 2 56 (.int k n)=fF .u64 n:=kq
theorem zgt(H:Heap)(k:IntKind)(n:Int):nM E H 3 56 (.int k n)=fF .u64 n:=kq
theorem zgu(H:Heap)(k:IntKind)(n:Int):nM E H 3 171 (.int k n)=fF .u64 n:=kq
theorem zgv(H:Heap)(k:IntKind)(n:Int):nM E H 3 293 (.int k n)=fF .u64 n:=kq
theorem zgw(H:Heap)(k:IntKind)(n:Int):nM E H 5 3 (.int k n)=fF .i64 n:=kq
theorem zgx(H:Heap)(k:IntKind)(n:Int):nM E H 56 2 (.int k n)=fF .i64 n:=kq
theorem zgy(H:Heap)(k:IntKind)(n:Int):nM E H 56 3 (.int k n)=fF .i64 n:=kq
theorem zgz(H:Heap)(k:IntKind)(n:Int):nM E H 56 5 (.int k n)=fF .u8 n:=kq
theorem zgA(H:Heap)(k:IntKind)(n:Int):nM E H 171 3 (.int k n)=fF .i64 n:=kq
set_option linter.defProp false
def st:=And.intro (And.intro (And.intro (And.intro (And.intro (And.intro (And.intro @zcV (And.intro @zcW @zcX)) (And.intro (And.intro @eq_2 @zcY) (And.intro @zcZ @zc0))) (And.intro (And.intro @zc1 (And.intro @eq_3 @zc2)) (And.intro (And.intro @zc3 @zc4) (And.intro @eq_4 @zc5)))) (And.intro (And.intro (And.intro @zc6 (And.intro @zc7 @zc8)) (And.intro (And.intro @zc9 @zda) (And.intro @zdb @zdc))) (And.intro (And.intro (And.intro @zdd @zde) (And.intro @zdf @zdg)) (And.intro (And.intro @zdh @zdi) (And.intro @zdj @zdk))))) (And.intro (And.intro (And.intro (And.intro @zdl (And.intro @zdm @zdn)) (And.intro (And.intro @zdo @zdp) (And.intro @zdq @zdr))) (And.intro (And.intro @zds (And.intro @zdt @zdu)) (And.intro (And.intro @zdv @zdw) (And.intro @zdx @zdy)))) (And.intro (And.intro (And.intro @zdz (And.intro @zdA @zdB)) (And.intro (And.intro @zdC @zdD) (And.intro @zdE @zdF))) (And.intro (And.intro (And.intro @zdG @zdH) (And.intro @zdI @zdJ)) (And.intro (And.intro @zdK @zdL) (And.intro @zdM @zdN)))))) (And.intro (And.intro (And.intro (And.intro (And.intro @zdO (And.intro @zdP @zdQ)) (And.intro (And.intro @zdR @zdS) (And.intro @zdT @zdU))) (And.intro (And.intro @zdV (And.intro @zdW @zdX)) (And.intro (And.intro @zdY @zdZ) (And.intro @zd0 @zd1)))) (And.intro (And.intro (And.intro @zd2 (And.intro @zd3 @zd4)) (And.intro (And.intro @zd5 @zd6) (And.intro @zd7 @zd8))) (And.intro (And.intro (And.intro @zd9 @zea) (And.intro @zeb @zec)) (And.intro (And.intro @zed @zee) (And.intro @zef @zeg))))) (And.intro (And.intro (And.intro (And.intro @zeh (And.intro @zei @zej)) (And.intro (And.intro @zek @zel) (And.intro @zem @zen))) (And.intro (And.intro @zeo (And.intro @zep @zeq)) (And.intro (And.intro @zer @zes) (And.intro @zet @zeu)))) (And.intro (And.intro (And.intro @zev (And.intro @zew @zex)) (And.intro (And.intro @zey @zez) (And.intro @zeA @zeB))) (And.intro (And.intro (And.intro @zeC @zeD) (And.intro @zeE @zeF)) (And.intro (And.intro @zeG @zeH) (And.intro @zeI @zeJ))))))) (And.intro (And.intro (And.intro (And.intro (And.intro (And.intro @zeK (And.intro @zeL @zeM)) (And.intro (And.intro @zeN @zeO) (And.intro @zeP @zeQ))) (And.intro (And.intro @zeR (And.intro @zeS @zeT)) (And.intro (And.intro @zeU @zeV) (And.intro @zeW @zeX)))) (And.intro (And.intro (And.intro @zeY (And.intro @zeZ @ze0)) (And.intro (And.intro @ze1 @ze2) (And.intro @ze3 @ze4))) (And.intro (And.intro (And.intro @ze5 @ze6) (And.intro @ze7 @ze8)) (And.intro (And.intro @ze9 @zfa) (And.intro @zfb @zfc))))) (And.intro (And.intro (And.intro (And.intro @zfd (And.intro @zfe @zff)) (And.intro (And.intro @zfg @zfh) (And.intro @zfi @zfj))) (And.intro (And.intro @zfk (And.intro @zfl @zfm)) (And.intro (And.intro @zfn @Ow) (And.intro @zfo @zfp)))) (And.intro (And.intro (And.intro @zfq (And.intro @zfr @zfs)) (And.intro (And.intro @zft @zfu) (And.intro @zfv @zfw))) (And.intro (And.intro (And.intro @zfx @zfy) (And.intro @zfz @zfA)) (And.intro (And.intro @zfB @zfC) (And.intro @zfD @zfE)))))) (And.intro (And.intro (And.intro (And.intro (And.intro @zfF (And.intro @zfG @zfH)) (And.intro (And.intro @zfI @zfJ) (And.intro @zfK @zfL))) (And.intro (And.intro @zfM (And.intro @zfN @zfO)) (And.intro (And.intro @zfP @zfQ) (And.intro @zfR @zfS)))) (And.intro (And.intro (And.intro @zfT (And.intro @zfU @zfV)) (And.intro (And.intro @zfW @zfX) (And.intro @zfY @zfZ))) (And.intro (And.intro (And.intro @zf0 @zf1) (And.intro @zf2 @zf3)) (And.intro (And.intro @zf4 @zf5) (And.intro @zf6 @zf7))))) (And.intro (And.intro (And.intro (And.intro @zf8 (And.intro @zf9 @zga)) (And.intro (And.intro @zgb @zgc) (And.intro @zgd @zge))) (And.intro (And.intro @zgf (And.intro @zgg @zgh)) (And.intro (And.intro @zgi @zgj) (And.intro @zgk @zgl)))) (And.intro (And.intro (And.intro @zgm (And.intro @zgn @zgo)) (And.intro (And.intro @zgp @zgq) (And.intro @zgr @zgs))) (And.intro (And.intro (And.intro @zgt @zgu) (And.intro @zgv @zgw)) (And.intro (And.intro @zgx @zgy) (And.intro @zgz @zgA)))))))
end Go.AM
