/- TopSound: lemmas, part 5. -/
import Derived.Test.YtijcgllddnpmhaaGreatDoorTopSoundT03
set_option maxRecDepth 100000
set_option maxHeartbeats 16000000
set_option linter.all false
namespace Go.Proofs.YtijcgllddnpmhaaGreatDoor
open Go.RowKit Go.Proofs.Tryz
section
open Go.RowKit Go.Extern.Stop Go.Stop Go.Extern
theorem Tryz.noAsN(v:Value)(xT:TypeId)(w:World):(Instr.typeAssert (.iface 37 v) xT 314 true).run prog w= .ok (.tuple #[.nilIface, .bool false]) w:=run_typeAssert_lacksB underlying314 (by kernel_rfl) (by kernel_rfl) v xT w
theorem Tryz.noAsF(v:Value)(xT:TypeId)(w:World):(Instr.typeAssert (.iface 177 v) xT 314 true).run prog w= .ok (.tuple #[.nilIface, .bool false]) w:=run_typeAssert_lacksB underlying314 (by kernel_rfl) (by kernel_rfl) v xT w
def Tryz.valueOfX:Array Value->Sem Value:=fun args=>ReflectliteValue.unpack (args.getD 0 (.tuple #[]))
def Tryz.typeX:Array Value->Sem Value:=ReflectliteValue.methodAny (ReflectliteValue.valueError "reflectlite.Value.Type" 0) (fun t _ _ _=>ReflectliteType.toType t)
def Tryz.isNilX:Array Value->Sem Value:=ReflectliteValue.method (ReflectliteValue.valueError "reflectlite.Value.IsNil" 0) ReflectliteValue.isNil
def Tryz.kindX:Array Value->Sem Value:=ReflectliteType.abiMethod fun t=>do pure (.int .u8 (<-Rtype.kind t))
def Tryz.relemX:Array Value->Sem Value:=ReflectliteType.method ReflectliteType.elem
def Tryz.implX:Array Value->Sem Value:=ReflectliteType.relation "Implements" ReflectliteType.implements_
def Tryz.assignX:Array Value->Sem Value:=ReflectliteType.relation "AssignableTo" ReflectliteType.assignableTo
def Tryz.velemX:Array Value->Sem Value:=ReflectliteValue.method (ReflectliteValue.valueError "reflectlite.Value.Elem" 0) ReflectliteValue.elem
def Tryz.setX:Array Value->Sem Value:=ReflectliteValue.set
def Tryz.typeOfX:Array Value->Sem Value:=Extern.ReflectliteType.typeOf
theorem Tryz.valueOfP(t:Addr)(w:World):(Tryz.valueOfX #[.iface 131 (.pointer (some t))]).run prog w= .ok (.agg #[.pointer (some ⟨1,131,none⟩), .pointer (some ⟨w.heap.size,0,none⟩), .int .u64 150]) (w.alloc (.cells #[.pointer (some t)] 131)):=by kernel_rfl
theorem Tryz.typeP(a:Addr)(w:World):(Tryz.typeX #[.agg #[.pointer (some ⟨1,131,none⟩), .pointer (some a), .int .u64 150]]).run prog w= .ok (.iface 309 (.agg #[.pointer (some ⟨1,131,none⟩)])) w:=by kernel_rfl
theorem Tryz.methodKind(h:Value)(w:World):(Go.method 570 309 (.agg #[h]) "Kind").run prog w= .ok (305,h) w:=by kernel_rfl
theorem Tryz.kindP(w:World):(Tryz.kindX #[.pointer (some ⟨1,131,none⟩)]).run prog w= .ok (.int .u8 22) w:=by kernel_rfl
theorem Tryz.kindN(w:World):(Tryz.kindX #[.pointer (some ⟨1,37,none⟩)]).run prog w= .ok (.int .u8 2) w:=by kernel_rfl
theorem rlm3(z:Sem Value)(f:TypeId->Addr->Nat->Nat->Sem Value)(v:Value):
  ReflectliteValue.method z f #[v]=(do match<-ReflectliteValue.parts v with|none=>z|some (t,a,fl)=>f t a fl (fl % 32)):=rfl
theorem Tryz.partsP(a:Addr)(w:World):(ReflectliteValue.parts (.agg #[.pointer (some ⟨1,131,none⟩), .pointer (some a), .int .u64 150])).run prog w= .ok (some (131,a,150)) w:=by kernel_rfl
theorem Tryz.isNilP(a p:Addr)(W:World)(ha:W.cell? a=some (.pointer (some p))):(Tryz.isNilX #[.agg #[.pointer (some ⟨1,131,none⟩), .pointer (some a), .int .u64 150]]).run prog W= .ok (.bool false) W:=by
 unfold Tryz.isNilX;rw[rlm3];simp only[Sem.run_bind,Tryz.partsP,Result.andThen];simp[ReflectliteValue.isNil,loadVar,isAgg,underlying,underlying131,ha,Result.andThen]
theorem Tryz.methodElem(h:Value)(w:World):(Go.method 570 309 (.agg #[h]) "Elem").run prog w= .ok (318, .agg #[h]) w:=by kernel_rfl
theorem Tryz.methodImpl(h:Value)(w:World):(Go.method 570 309 (.agg #[h]) "Implements").run prog w= .ok (319, .agg #[h]) w:=by kernel_rfl
theorem Tryz.methodAssign(h:Value)(w:World):(Go.method 570 309 (.agg #[h]) "AssignableTo").run prog w= .ok (316, .agg #[h]) w:=by kernel_rfl
theorem Tryz.elemP(w:World):(Tryz.relemX #[.agg #[.pointer (some ⟨1,131,none⟩)]]).run prog w= .ok (.iface 309 (.agg #[.pointer (some ⟨1,37,none⟩)])) w:=by kernel_rfl
theorem Tryz.implN(w:World):(Tryz.implX #[.agg #[.pointer (some ⟨1,37,none⟩)], .iface 309 (.agg #[.pointer (some ⟨1,32,none⟩)])]).run prog w= .ok (.bool true) w:=by kernel_rfl
theorem Tryz.typeOfN(v:Value)(w:World):(Tryz.typeOfX #[.iface 37 v]).run prog w= .ok (.iface 309 (.agg #[.pointer (some ⟨1,37,none⟩)])) w:=by kernel_rfl
theorem Tryz.typeOfF(v:Value)(w:World):(Tryz.typeOfX #[.iface 177 v]).run prog w= .ok (.iface 309 (.agg #[.pointer (some ⟨1,177,none⟩)])) w:=by kernel_rfl
theorem Tryz.assignN(w:World):(Tryz.assignX #[.agg #[.pointer (some ⟨1,37,none⟩)], .iface 309 (.agg #[.pointer (some ⟨1,37,none⟩)])]).run prog w= .ok (.bool true) w:=by kernel_rfl
theorem Tryz.assignF(w:World):(Tryz.assignX #[.agg #[.pointer (some ⟨1,177,none⟩)], .iface 309 (.agg #[.pointer (some ⟨1,37,none⟩)])]).run prog w= .ok (.bool false) w:=by kernel_rfl
theorem Tryz.valueOfN(n:Int)(w:World):(Tryz.valueOfX #[.iface 37 (.int .i64 n)]).run prog w= .ok (.agg #[.pointer (some ⟨1,37,none⟩), .pointer (some ⟨w.heap.size,0,none⟩), .int .u64 130]) (w.alloc (.cells #[.int .i64 n] 37)):=by kernel_rfl
theorem Tryz.elemOfP(w:World):(Rtype.elem? 131).run prog w= .ok (some 37) w:=by kernel_rfl
theorem Tryz.mkN(p:Addr)(w:World):(ReflectliteValue.mk 37 p ReflectliteValue.flagAddr).run prog w= .ok (.agg #[.pointer (some ⟨1,37,none⟩), .pointer (some p), .int .u64 386]) w:=by kernel_rfl
theorem Tryz.velemP(a p:Addr)(W:World)(ha:W.cell? a=some (.pointer (some p))):(Tryz.velemX #[.agg #[.pointer (some ⟨1,131,none⟩), .pointer (some a), .int .u64 150]]).run prog W= .ok (.agg #[.pointer (some ⟨1,37,none⟩), .pointer (some p), .int .u64 386]) W:=by
 unfold Tryz.velemX;rw[rlm3];simp only[Sem.run_bind,Tryz.partsP,Result.andThen];simp[ReflectliteValue.elem,loadVar,isAgg,underlying,underlying131,ha,Result.andThen,Tryz.elemOfP,Tryz.mkN]
theorem rls3(v x:Value):ReflectliteValue.set #[v,x]=(do
  let(some (dst,a,fl),some (src,b,_)):=(<-ReflectliteValue.parts v,<-ReflectliteValue.parts x)
   |unsupported (.noEntry "extern/(internal/reflectlite.Value).Set.zeroValue")
  if fl / ReflectliteValue.flagAddr % 2==0 then unsupported (.noEntry "extern/(internal/reflectlite.Value).Set.unaddressable")
  let val<-loadVar src b
  if<-Rtype.directlyAssignable dst src then storeVar dst a val
  else if<-Rtype.implements dst src then
   if(<-Rtype.kind src)==20 then
    match val with
    | .nilIface=>unsupported (.noEntry "extern/reflectlite: a nil value of one interface type handed on as a value of another")
    |_=>storeVar dst a val
   else storeVar dst a (.iface src val)
  else panicString ("reflectlite.Set: value of type " ++(<-Rtype.spelt src)++ " is not assignable to type " ++(<-Rtype.spelt dst))
  pure (.tuple #[])):=rfl
theorem Tryz.partsNa(a:Addr)(w:World):(ReflectliteValue.parts (.agg #[.pointer (some ⟨1,37,none⟩), .pointer (some a), .int .u64 386])).run prog w= .ok (some (37,a,386)) w:=by kernel_rfl
theorem Tryz.partsN(a:Addr)(w:World):(ReflectliteValue.parts (.agg #[.pointer (some ⟨1,37,none⟩), .pointer (some a), .int .u64 130])).run prog w= .ok (some (37,a,130)) w:=by kernel_rfl
theorem Tryz.directN(w:World):(Rtype.directlyAssignable 37 37).run prog w= .ok true w:=by kernel_rfl
theorem Tryz.setN(ta b:Addr)(n:Int)(old:Value)(W:World)(hb:W.cell? b=some (.int .i64 n))(ht:W.cell? ta=some old)(hf:W.frozen? ta=false):
  (Tryz.setX #[.agg #[.pointer (some ⟨1,37,none⟩), .pointer (some ta), .int .u64 386], .agg #[.pointer (some ⟨1,37,none⟩), .pointer (some b), .int .u64 130]]).run prog W= .ok (.tuple #[]) (W.setCell ta (.int .i64 n)):=by
 unfold Tryz.setX;rw[rls3];simp only[Sem.run_bind,Tryz.partsNa,Tryz.partsN,Result.andThen];simp[ReflectliteValue.flagAddr,loadVar,isAgg,underlying,underlying37,hb,Result.andThen,Tryz.directN,storeVar,Value.cells,storeCells,Addr.add];rw[run_store prog W ta _ _ (by rfl)];simp[ht,hf]
end
section
open Go.RowKit Go.Extern.Stop Go.Stop Go.Extern
theorem eas_any(k:Nat)(v:Value)(w:World)(hE:VS w w.heap.size k v)(g h:Nat)(n0:Int)(hg:g<w.heap.size)(hh:h<w.heap.size)(hv:w.cell? ⟨h,0,none⟩=some (.pointer (some ⟨g,0,none⟩)))
  (ht:w.heap[g]?=some (.cells #[.int .i64 n0] 37)):
  Calls prog 118 #[v, .iface 131 (.pointer (some ⟨g,0,none⟩)), .agg #[.pointer (some ⟨1,131,none⟩), .pointer (some ⟨h,0,none⟩), .int .u64 150], .iface 309 (.agg #[.pointer (some ⟨1,37,none⟩)])] w
   fun e w'=>e= .returned (.bool true)/\(∃n,w'.cell? ⟨g,0,none⟩=some (.int .i64 n))/\Below g w w':=by
 have x1:= @run_callFunc_extern prog 185 _ Tryz.typeOfX func185 (by kernel_rfl) (by kernel_rfl) (by kernel_rfl) (by kernel_rfl);have x2:= @run_callFunc_extern prog 316 _ Tryz.assignX func316 (by kernel_rfl) (by kernel_rfl) (by kernel_rfl) (by kernel_rfl);have x3:= @run_callFunc_extern prog 186 _ Tryz.velemX func186 (by kernel_rfl) (by kernel_rfl) (by kernel_rfl) (by kernel_rfl);have x4:= @run_callFunc_extern prog 115 _ Tryz.valueOfX func115 (by kernel_rfl) (by kernel_rfl) (by kernel_rfl) (by kernel_rfl);have x5:= @run_callFunc_extern prog 187 _ Tryz.setX func187 (by kernel_rfl) (by kernel_rfl) (by kernel_rfl) (by kernel_rfl);have t1:=Tryz.typeOfN;have t2:=Tryz.typeOfF;have mA:=Tryz.methodAssign;have a1:=Tryz.assignN;have a2:=Tryz.assignF;have nN:=Tryz.noAsN;have nF:=Tryz.noAsF;have uF:=Tryz.hasUnwF;have mU:=Tryz.methodUnw;have HE:=DY hE;obtain⟨W,hW⟩:=DR (w.alloc (.cells #[.pointer (some ⟨1,131,none⟩), .pointer (some ⟨h,0,none⟩), .int .u64 150] 229));have z6:=DY (show VS W w.heap.size k v by rw[hW];exact hE.below (Qd _ _));have z3:W.heap[w.heap.size]?=some (.cells #[.pointer (some ⟨1,131,none⟩), .pointer (some ⟨h,0,none⟩), .int .u64 150] 229):=by rw[hW];exact heap_alloc_new _ _
 obtain⟨c0,c1,c2⟩:=DV z3;have z2:W.cell? ⟨h,0,none⟩=some (.pointer (some ⟨g,0,none⟩)):=by rw[hW];exact((Qd w _).cell (p:=⟨h,0,none⟩) hh).trans hv
 have z0:W.heap[g]?=some (.cells #[.int .i64 n0] 37):=by rw[hW];exact Qj ht _
 have z4:Below w.heap.size w W:=by rw[hW];exact Qd _ _
 have ve:=Tryz.velemP ⟨h,0,none⟩ ⟨g,0,none⟩ W z2;have vo:=fun n=>Tryz.valueOfN n W
 have st:=fun n=>Tryz.setN ⟨g,0,none⟩ ⟨W.heap.size,0,none⟩ n (.int .i64 n0) (W.alloc (.cells #[.int .i64 n] 37)) (by rw[Nk];rfl)
  (Qa (Qj z0 _) 0 rfl) (Qf (Qj z0 _) 0)
 have HG:=DY (show g<W.heap.size from Zv z0);have z7:=DY z0;have z5:=DY z4;have HS:=DY hg;clear hE hv ht z2 z0 z4 z3 HE hg hh;go_enter func118,ntmps118
 go_wp2_with fail
 rw[<-hW];clear hW;go_loopg [0] k (fun gk s0 wr=>VS W w.heap.size gk s0/\wr=W)
 case atStart=>exact⟨z6.out,rfl⟩
 case round=>
  obtain⟨hk,rfl⟩:=hrel;cases gk with
  |zero=>
   obtain⟨n,rfl⟩:=hk;have vo':=vo n;have st':=st n;go_wp2;go_ret;refine⟨rfl,⟨n,?_⟩,?_⟩
   ·exact World.cell?_setCell_same' _ _ _ (by rw[Qa (Qj z7 _) 0 rfl];rfl)
   ·exact(((z5.out.mono (Lk HS)).alloc (Lk HG) _).setCell (Nat.le_refl _) _)
  |succ j=>
   obtain⟨q,b,e,rfl,hq,z1,h2⟩:=hk;have h0:=Qa z1 0 rfl;have h1:wr.cell? ⟨q,1,none⟩=some e:=Qa z1 1 rfl;have HK:=DY h2;obtain⟨te,xe,rfl⟩:=VS.form h2;clear h2 vo st ve z1;go_wp2;go_roundg j
   case measure=>omega
   case rel=>exact⟨HK.out,rfl⟩
def XC(w:World):Prop:=w.cell? ⟨0,0,none⟩=some (.iface 309 (.agg #[.pointer (some ⟨1,32,none⟩)]))
theorem XC.below{w w':World}(h:XC w)(hb:Below w.heap.size w w'):XC w':=Qg hb h
theorem eAs_any(k:Nat)(v:Value)(w:World)(hE:VS w w.heap.size k v)(g:Nat)(n0:Int)(ht:w.heap[g]?=some (.cells #[.int .i64 n0] 37))(hT:XC w):
  Calls prog 64 #[v, .iface 131 (.pointer (some ⟨g,0,none⟩))] w fun e w'=>e= .returned (.bool true)/\(∃n,w'.cell? ⟨g,0,none⟩=some (.int .i64 n))/\Below g w w':=by
 obtain⟨te,xe,rfl⟩:=VS.form hE;have x4:= @run_callFunc_extern prog 115 _ Tryz.valueOfX func115 (by kernel_rfl) (by kernel_rfl) (by kernel_rfl) (by kernel_rfl);have x6:= @run_callFunc_extern prog 116 _ Tryz.typeX func116 (by kernel_rfl) (by kernel_rfl) (by kernel_rfl) (by kernel_rfl);have x7:= @run_callFunc_extern prog 117 _ Tryz.isNilX func117 (by kernel_rfl) (by kernel_rfl) (by kernel_rfl) (by kernel_rfl);have x8:= @run_callFunc_extern prog 305 _ Tryz.kindX func305 (by kernel_rfl) (by kernel_rfl) (by kernel_rfl) (by kernel_rfl);have x9:= @run_callFunc_extern prog 318 _ Tryz.relemX func318 (by kernel_rfl) (by kernel_rfl) (by kernel_rfl) (by kernel_rfl);have x0:= @run_callFunc_extern prog 319 _ Tryz.implX func319 (by kernel_rfl) (by kernel_rfl) (by kernel_rfl) (by kernel_rfl);have hg:g<w.heap.size:=Zv ht;obtain⟨W1,z1⟩:=DR (w.alloc (.cells #[.pointer (some ⟨g,0,none⟩)] 131));obtain⟨W2,z0⟩:=DR (W1.alloc (.cells #[.pointer (some ⟨1,131,none⟩), .pointer (some ⟨w.heap.size,0,none⟩), .int .u64 150] 229));have s1:W1.heap.size=w.heap.size+1:=by rw[z1];simp
 have s2:W2.heap.size=w.heap.size+2:=by rw[z0];simp[s1]
 have b1:Below w.heap.size w W1:=by rw[z1];exact Qd _ _
 have b2:Below W1.heap.size W1 W2:=by rw[z0];exact Qd _ _
 have k1:W1.heap[w.heap.size]?=some (.cells #[.pointer (some ⟨g,0,none⟩)] 131):=by rw[z1];exact heap_alloc_new _ _
 have k2:W2.heap[w.heap.size+1]?=some (.cells #[.pointer (some ⟨1,131,none⟩), .pointer (some ⟨w.heap.size,0,none⟩), .int .u64 150] 229):=by rw[z0,<-s1];exact heap_alloc_new _ _
 have z2:Below w.heap.size w W2:=b1.trans (b2.mono (by omega));have z3:=Qe k1 b2;have vo:=Tryz.valueOfP ⟨g,0,none⟩ w;rw[<-z1] at vo;have ty:=Tryz.typeP ⟨w.heap.size,0,none⟩ W2;have kp:=Tryz.kindP;have kn:=Tryz.kindN;have mK:=Tryz.methodKind;have mE:=Tryz.methodElem;have mI:=Tryz.methodImpl;have iN:=Tryz.isNilP ⟨w.heap.size,0,none⟩ ⟨g,0,none⟩ W2 (Qa z3 0 rfl);have eP:=Tryz.elemP;have im:=Tryz.implN;have g0:W2.cell? ⟨0,0,none⟩=some (.iface 309 (.agg #[.pointer (some ⟨1,32,none⟩)])):=hT.below z2;have c0:W2.cell? ⟨w.heap.size+1,0,none⟩=some (.pointer (some ⟨1,131,none⟩)):=Qa k2 0 rfl;have c1:W2.cell? ⟨w.heap.size+1,1,none⟩=some (.pointer (some ⟨w.heap.size,0,none⟩)):=Qa k2 1 rfl;have c2:W2.cell? ⟨w.heap.size+1,2,none⟩=some (.int .u64 150):=Qa k2 2 rfl;have HA:=eas_any k (.iface te xe) W2 ((hE.below z2).more (by omega)) g w.heap.size n0 (by omega) (by omega) (Qa z3 0 rfl) (Qe ht z2);have HB:=DY (z2.mono (Lk hg));have z4:=DY z0;have S1:=DY s1;clear hE hT ht k1 k2 z3 b1 b2 z2 hg z1 z0 s1 s2;go_enter func64,ntmps64
 go_upto_region 6 with fail
 rw[S1.out,<-z4.out];clear z4 S1;go_wp2_with fail
 refine HA.mono ?_;rintro e w' ⟨rfl,hn,hb⟩;clear HA;go_wp2;go_ret;exact⟨rfl,hn,HB.out.trans hb⟩
theorem code_any(v:Value)(w:World)(d:Nat)(hv:Qy d w w.heap.size v)(hT:XC w):Calls prog 23 #[v] w fun e w'=>(∃n,e= .returned (.int .i64 n))/\Below w.heap.size w w':=by
 obtain⟨k,_,hE⟩:=hv;obtain⟨te,xe,rfl⟩:=VS.form hE;have hb:=Qd w (.cells #[.int .i64 0] 37);have HA:=eAs_any k (.iface te xe) (w.alloc (.cells #[.int .i64 0] 37)) ((hE.below hb).more hb.size) w.heap.size 0 (heap_alloc_new _ _) (hT.below hb);clear hE hT;go_enter func23,ntmps23
 go_wp2_with fail
 refine HA.mono ?_;rintro e w' ⟨rfl,⟨n,hn⟩,z0⟩;clear HA;go_wp2;go_ret;exact⟨⟨n,rfl⟩,hb.trans z0⟩
theorem Tryz.asN(v:Value)(w:World):(Instr.typeAssert (.iface 37 v) 32 177 true).run prog w= .ok (.tuple #[.pointer none, .bool false]) w:=by kernel_rfl
theorem Tryz.asF(v:Value)(w:World):(Instr.typeAssert (.iface 177 v) 32 177 true).run prog w= .ok (.tuple #[v, .bool true]) w:=by kernel_rfl
theorem fblocks_any(v:Value)(w:World)(d:Nat)(hd:d<=1000)(hv:Qy d w w.heap.size v):Calls prog 243 #[v] w fun e w'=>∃l:List Int,XQ 3 (iv l) w e w':=by
 obtain⟨k,hk,hE⟩:=hv;obtain⟨i0',hi,za,z5,z7⟩:=info_parts Tryz.infoI64;have HE:=DY hE;have q1:=Tryz.asN;have q2:=Tryz.asF;clear hE;go_enter func243,ntmps243
 go_wp2_with fail
 go_loopg [0,3] (k+1) (fun gk s0 s3 wr=>((gk=0/\s0= .nilIface)∨∃j,gk=j+1/\VS w w.heap.size j s0)/\(∃A c l,l.length+gk<=1001/\s3= .slice A l.length c/\wr.ownsRow w.heap.size 3 1 (.slice A l.length c) l.length (iv l))/\Below w.heap.size w wr)
 case atStart=>exact⟨.inr ⟨k,rfl,HE.out⟩,⟨none,0,[],by simp;omega,rfl,Nb _ _ _ _⟩,D6 _ _⟩
 case round=>
  obtain⟨h0,⟨A,c,l,hl,rfl,z1⟩,hb⟩:=hrel;have HO:=DY z1;have HB:=DY hb;clear z1;rcases h0 with⟨rfl,rfl⟩|⟨j,rfl,hj⟩
  ·clear hb;go_wp2;go_ret;exact⟨l,A,c,by rw[QK];rfl,by rw[QK];exact HO.out,HB.out⟩
  ·have HJ:=DY hj;cases j with
   |zero=>
    obtain⟨n,rfl⟩:=hj;have u:=fun W=>eunwrap_num n W
    clear hb;go_wp2_with fail
    refine(u _).mono ?_;rintro e w2 ⟨rfl,rfl⟩;clear u;go_wp2;go_roundg 0
    case measure=>omega
    case rel=>exact⟨.inl ⟨rfl,rfl⟩,⟨A,c,l,by omega,rfl,HO.out⟩,HB.out⟩
   |succ j=>
    obtain⟨q,b,e,rfl,hq,z3,h2⟩:=hj;have h0:w.cell? ⟨q,0,none⟩=some (.int .i64 b):=Qa z3 0 rfl;have h1:w.cell? ⟨q,1,none⟩=some e:=Qa z3 1 rfl;have HK:=Lib.hid h2;have p0:=(hb.cell (p:=⟨q,0,none⟩) hq).trans h0;have p1:=Lib.hid ((hb.cell (p:=⟨q,1,none⟩) hq).trans h1);have HQ:=Lib.hid hq;clear h0 h1 z3 h2 hb hq;go_wp2_with (refine QE _ rfl (.tmp 18) (.tmp 23) 68 rfl w.heap.size 3 i0' _ 8 underlying68 hi za z5 z7 rfl _ l.length (iv l) rfl (HO.out.alloc _) (wr.heap.size+1) (some ⟨wr.heap.size,0,none⟩) 1 1 (iv [b]) rfl rfl (Qh.new wr (iv [b]) 3 (0,0)) (Jo _) (by simp only[maxLen];omega) (by omega) (by have:=HB.out.size;simp;omega) ?_;intro A' c' w3 z0 z4 z2 z8)
    have z6:=Lib.hid z0;have z9:=Lib.hid ((HB.out.alloc HB.out.size _).trans z2);have hp:=(z2.cell (p:=⟨q,1,none⟩) HQ).trans ((Lm wr _ ⟨q,1,none⟩ (by have:=HB.out.size;have:=HQ.out;simp;omega)).trans p1.out);have u:=GP q e w3 hp;clear p0 z4 z2 z8 z0 hp;refine u.mono ?_;rintro e2 w4 ⟨rfl,rfl⟩;clear u;go_wp2;go_roundg (j+1)
    case measure=>omega
    case rel=>
     refine⟨.inr ⟨j,rfl,HK.out⟩,⟨A',c',l++[b],by simp;omega,by simp,?_⟩,z9.out⟩
     rw[D7,Xb];exact z6.out
end
structure QF where
 t:Int
 leaf:Bool
 keys:List Int
 vals:List (List UInt8)
def zeroN:QF:=⟨0,false,[],[]⟩
def zs(n:Nat):List UInt8:=List.replicate n 0
theorem E3(n:Nat):(zs n).length=n:=Nn
theorem Ok(t:Int)(b:Bool):QV t b=0/\ZE t b=0∨(QV t b=4/\ZE t b=18∨QV t b=8/\ZE t b=12∨QV t b=16/\ZE t b=9∨QV t b=24/\ZE t b=6)/\1<=t/\t<=5:=by
 unfold QV ZE;by_cases h:t<1∨5<t
 ·rw[if_pos h,if_pos h];exact .inl ⟨rfl,rfl⟩
 ·rw[if_neg h,if_neg h];cases b
  ·right;exact⟨.inl ⟨rfl,rfl⟩,by omega,by omega⟩
  ·simp only[Bool.true_eq_false,if_false]
   split
   ·right;exact⟨.inr (.inl ⟨rfl,rfl⟩),by omega,by omega⟩
   ·split
    ·right;exact⟨.inr (.inr (.inr ⟨rfl,rfl⟩)),by omega,by omega⟩
    ·split
     ·right;exact⟨.inr (.inr (.inl ⟨rfl,rfl⟩)),by omega,by omega⟩
     ·right;exact⟨.inl ⟨rfl,rfl⟩,by omega,by omega⟩
def keyE(keys:List Int)(i:Nat):Int:=
 if keys.getD i 0<0∨281474976710655<keys.getD i 0 then 2
 else if 0<i/\keys.getD i 0<=keys.getD (i-1) 0 then 8 else 0
theorem keyE_zero{keys:List Int}{i:Nat}:keyE keys i=0↔(0<=keys.getD i 0/\keys.getD i 0<=281474976710655)/\(0<i->keys.getD (i-1) 0<keys.getD i 0):=by
 unfold keyE
 split
 ·constructor
  ·intro h;cases h
  ·intro h;omega
 ·split
  ·constructor
   ·intro h;cases h
   ·intro h;omega
  ·constructor
   ·intro _;omega
   ·intro _;rfl
def okAt(n:QF)(i:Nat):Prop:=keyE n.keys i=0/\((n.vals.getD i []).length:Int)=QV n.t n.leaf
instance (n:QF) (i:Nat):Decidable (okAt n i):=by unfold okAt;infer_instance
def okN(n:QF):Nat->Bool
 |0=>true
 |k+1=>okN n k&&decide (okAt n k)
theorem Rj(n:QF):∀k,okN n k=true↔∀i,i<k->okAt n i
 |0=>⟨fun _ i hi=>absurd hi (by omega),fun _=>rfl⟩
 |k+1=>by
  unfold okN;rw[Nu,Rj n k,decide_eq_true_iff];constructor
  ·intro h i hi;rcases NC i k with h1|h1
   ·exact h.1 i h1
   ·obtain rfl:i=k:=by omega
    exact h.2
  ·intro h;exact⟨fun i hi=>h i (by omega),h k (by omega)⟩
theorem okN_bad{n:QF}{i k:Nat}(h:i<k)(hb:¬okAt n i):okN n k=false:=by
 cases h2:okN n k
 ·rfl
 ·exact absurd ((Rj n k).1 h2 i h) hb
def YM(n:QF):Bool:=decide (QV n.t n.leaf≠0/\n.keys.length<=ZE n.t n.leaf/\n.vals.length=n.keys.length/\(n.leaf=true∨0<n.keys.length))
def Ys(n:QF):Bool:=YM n&&okN n n.keys.length
theorem XS(n:QF):YM n=true↔QV n.t n.leaf≠0/\n.keys.length<=ZE n.t n.leaf/\n.vals.length=n.keys.length/\(n.leaf=true∨0<n.keys.length):=by unfold YM;exact decide_eq_true_iff
def wN(n:QF):Nat:=(QV n.t n.leaf).toNat
def mN(n:QF):Nat:=ZE n.t n.leaf
def V7(n:QF):List UInt8:=leb 1 (if n.leaf=true then 1 else 0)++leb 1 n.t.toNat++leb 2 n.keys.length++leb 2 (wN n)++leb 2 (mN n)++leb 4 0
def US(n:QF)(k:Nat):List UInt8:=(n.keys.take k).flatMap fun x=>leb 8 x.toNat
def UO(n:QF)(k:Nat):List UInt8:=(n.vals.take k).flatten
def X2(n:QF)(k j:Nat):List UInt8:=V7 n++US n k++zs (8*(mN n-k))++(UO n j++zs (232-8*mN n-wN n*j))
def nodeB(n:QF):List UInt8:=X2 n n.keys.length n.keys.length
def Ek(n:QF):Int:=if Ys n=true then 0 else 1
def Zi(n:QF):List UInt8:=if Ys n=true then nodeB n else []
theorem Yv(n:QF):(V7 n).length=12:=by simp[V7,QM]
theorem Gk{α:Type}(f:α->List UInt8)(c:Nat):∀l:List α,(∀x∈l,(f x).length=c)->(l.flatMap f).length=c*l.length
 |[],_=>by simp
 |x::l,h=>by
  rw[List.flatMap_cons,D7,Gk f c l (fun y hy=>h y (NA _ hy)),h x (Ll ..),No,Nat.mul_succ];omega
theorem Kb(n:QF){k:Nat}(h:k<=n.keys.length):(US n k).length=8*k:=by
 unfold US;rw[Gk _ 8 _ (fun x _=>QM 8 _),Ni,LV h]
theorem G4(n:QF){k:Nat}(h:k<=n.vals.length)(hw:∀i,i<k->(n.vals.getD i []).length=wN n):(UO n k).length=wN n*k:=by
 unfold UO;have:(n.vals.take k).flatten=(n.vals.take k).flatMap id:=by simp[List.flatMap_id]
 rw[this,Gk id (wN n) _ (fun x hx=>?_),Ni,LV h];obtain⟨i,hi,rfl⟩:=List.mem_iff_getElem.1 hx;rw[Ni] at hi;have:=hw i (by omega);rw[D9,D1 (by omega)] at this;simpa using this
theorem keysB_next(n:QF){k:Nat}(h:k<n.keys.length):US n (k+1)=US n k++leb 8 (n.keys.getD k 0).toNat:=by
 unfold US;rw[List.take_add_one,D1 h,List.flatMap_append,D9,D1 h];simp
theorem valsB_next(n:QF){k:Nat}(h:k<n.vals.length):UO n (k+1)=UO n k++n.vals.getD k []:=by
 unfold UO;rw[List.take_add_one,D1 h,List.flatten_append,D9,D1 h];simp
theorem splice(a b c:List UInt8)(m o:Nat)(h:b.length<=m)(ho:o=a.length):(a++zs m++c).take o++(b++(a++zs m++c).drop (o+b.length))=a++b++zs (m-b.length)++c:=by
 subst ho;have hz:zs m=zs b.length++zs (m-b.length):=by unfold zs;rw[List.replicate_append_replicate];congr 1;omega
 rw[NQ a,List.take_left,<-List.drop_drop,List.drop_left,hz,NQ (zs b.length),List.drop_left' (E3 _)];simp only[NQ]
structure Oh(n:QF):Prop where
 w0:4<=wN n
 wi:QV n.t n.leaf=(wN n:Int)
 m:n.keys.length<=mN n
 v:n.vals.length=n.keys.length
 lf:n.leaf=true∨0<n.keys.length
 ky:∀i,i<n.keys.length->keyE n.keys i=0
 vl:∀i,i<n.keys.length->(n.vals.getD i []).length=wN n
 fit:(8+wN n)*mN n<=232
 tl:1<=n.t/\n.t<=5
 m18:mN n<=18
 w24:wN n<=24
theorem rightN_of{n:QF}(h:Ys n=true):Oh n:=by
 unfold Ys at h;rw[Nu,XS,Rj] at h;obtain⟨⟨h1,h2,h3,h4⟩,h5⟩:=h;have hc:=Ok n.t n.leaf;have hw:QV n.t n.leaf=(wN n:Int):=by unfold wN;omega
 have hm:ZE n.t n.leaf=mN n:=rfl;rw[hw,hm] at hc;refine⟨by omega,hw,by omega,h3,h4,fun i hi=>(h5 i hi).1,fun i hi=>by have:=(h5 i hi).2;omega,?_,by omega,by omega,by omega⟩
 rcases hc with hc|⟨hc,_⟩
 ·omega
 ·rcases hc with hc|hc|hc|hc
  all_goals
   obtain⟨e1,e2⟩:=hc;rw[show wN n=_ from Int.ofNat.inj e1,e2]
   decide
theorem rightN_iff(n:QF):Ys n=true↔YM n=true/\∀i,i<n.keys.length->okAt n i:=by unfold Ys;rw[Nu,Rj]
theorem put_key{n:QF}(h:Oh n){k:Nat}(hk:k<n.keys.length):(X2 n k k).take (12+8*k)++(leb 8 (n.keys.getD k 0).toNat++(X2 n k k).drop (12+8*k+8))=X2 n (k+1) k:=by
 have hm:=h.m;have e:=splice (V7 n++US n k) (leb 8 (n.keys.getD k 0).toNat) (UO n k++zs (232-8*mN n-wN n*k)) (8*(mN n-k)) (12+8*k) (by rw[QM];omega) (by rw[D7,Yv,Kb n (by omega)]);rw[QM] at e;unfold X2;rw[e,keysB_next n hk,show 8*(mN n-k)-8=8*(mN n-(k+1)) by omega]
 simp only[NQ]
theorem Rm{n:QF}(h:Oh n){k:Nat}(hk:k<=n.keys.length):8*mN n+wN n*k<=232:=by
 have h1:=h.fit;have h2:=h.m;rw[Nat.add_mul] at h1;have:wN n*k<=wN n*mN n:=Nat.mul_le_mul_left _ (by omega);omega
theorem put_val{n:QF}(h:Oh n){k:Nat}(hk:k<n.keys.length):(X2 n (k+1) k).take (12+8*mN n+wN n*k)++(n.vals.getD k []++(X2 n (k+1) k).drop (12+8*mN n+wN n*k+wN n))=X2 n (k+1) (k+1):=by
 have hm:=h.m;have hv:=h.v;have hf:=Rm h (k:=k+1) (by omega);rw[Nat.mul_succ] at hf;have hw:=h.vl k hk;have e:=splice (V7 n++US n (k+1)++zs (8*(mN n-(k+1)))++UO n k) (n.vals.getD k []) [] (232-8*mN n-wN n*k) (12+8*mN n+wN n*k) (by rw[hw];omega) (by
  rw[D7,D7,D7,Yv,Kb n (by omega),E3,G4 n (by omega) (fun i hi=>h.vl i (by omega))];omega)
 rw[hw,NZ,NZ] at e;have ep:X2 n (k+1) k=V7 n++US n (k+1)++zs (8*(mN n-(k+1)))++UO n k++zs (232-8*mN n-wN n*k):=by unfold X2;simp only[NQ]
 rw[ep,e];unfold X2;rw[valsB_next n (by omega),Nat.mul_succ,show 232-8*mN n-(wN n*k+wN n)=232-8*mN n-wN n*k-wN n by omega]
 simp only[NQ]
theorem Eu{n:QF}(h:Oh n){k j:Nat}(hk:k<=n.keys.length)(hj:j<=n.keys.length):(X2 n k j).length=244:=by
 have hm:=h.m;have hv:=h.v;have hf:=Rm h hj;unfold X2;rw[D7,D7,D7,D7,Yv,Kb n hk,E3,E3,G4 n (by omega) (fun i hi=>h.vl i (by omega))];omega
theorem nodeB_len{n:QF}(h:Oh n):(nodeB n).length=244:=Eu h (Na _) (Na _)
theorem nodeP_zero{n:QF}(h:Oh n):X2 n 0 0=V7 n++zs 232:=by
 have hf:=Rm h (k:=0) (by omega);unfold X2 US UO;simp only[Lv,List.flatMap_nil,List.flatten_nil,NZ,Np,Nat.sub_zero,Nat.mul_zero,NQ];unfold zs;rw[List.replicate_append_replicate]
 congr 2
 omega
def n0(b:List UInt8):Nat:=le (b.take 1)
def n1(b:List UInt8):Nat:=le ((b.drop 1).take 1)
def n2(b:List UInt8):Nat:=le ((b.drop 2).take 2)
def n3(b:List UInt8):Nat:=le ((b.drop 4).take 2)
def n4(b:List UInt8):Nat:=le ((b.drop 6).take 2)
def n5(b:List UInt8):Nat:=le ((b.drop 8).take 4)
def lfN(b:List UInt8):Bool:=decide (n0 b=1)
def wB(b:List UInt8):Nat:=(QV (n1 b) (lfN b)).toNat
def mB(b:List UInt8):Nat:=ZE (n1 b) (lfN b)
def Dt(b:List UInt8):Bool:=decide (b.length=244/\n0 b<=1/\QV (n1 b) (lfN b)≠0)
def ZX(b:List UInt8):Bool:=decide (Dt b=true/\n2 b<=mB b/\n3 b=wB b/\n4 b=mB b/\n5 b=0/\(lfN b=true∨0<n2 b))
def z1N(b:List UInt8):List UInt8:=(b.drop (12+8*n2 b)).take (8*mB b-8*n2 b)
def z2N(b:List UInt8):List UInt8:=b.drop (12+8*mB b+wB b*n2 b)
def Vk(b:List UInt8):Bool:=decide (ZX b=true/\Yh (z1N b)=true/\Yh (z2N b)=true)
def kN(b:List UInt8)(i:Nat):Nat:=le ((b.drop (12+8*i)).take 8)
def vN(b:List UInt8)(i:Nat):List UInt8:=(b.drop (12+8*mB b+wB b*i)).take (wB b)
def kE(b:List UInt8)(i:Nat):Int:=if 281474976710655<kN b i then 2 else if 0<i/\kN b i<=kN b (i-1) then 8 else 0
def Rc(b:List UInt8):Nat->Int
 |0=>0
 |k+1=>if Rc b k=0 then kE b k else Rc b k
def XZ(b:List UInt8):Int:=if Vk b=true then Rc b (n2 b) else 7
def Vh(b:List UInt8)(k:Nat):List Int:=(List.range k).map fun i=>(kN b i:Int)
def JL(b:List UInt8)(k:Nat):List (List UInt8):=(List.range k).map fun i=>vN b i
def Z5(b:List UInt8)(k:Nat):QF:=⟨n1 b,lfN b,Vh b k,JL b k⟩
def YW(b:List UInt8):QF:=if XZ b=0 then Z5 b (n2 b) else zeroN
theorem EK{b:List UInt8}{i:Nat}:∀k,i<k->Rc b i=0->kE b i≠0->Rc b k=kE b i
 |0,h,_,_=>absurd h (by omega)
 |k+1,h,h0,h1=>by
  unfold Rc;rcases NC i k with h2|h2
  ·rw[EK k h2 h0 h1,if_neg h1]
  ·obtain rfl:i=k:=by omega
   rw[if_pos h0]
theorem Xp(b:List UInt8)(k:Nat):(Vh b k).length=k:=by simp[Vh]
theorem VX(b:List UInt8)(k:Nat):(JL b k).length=k:=by simp[JL]
theorem keysN_next(b:List UInt8)(k:Nat):Vh b (k+1)=Vh b k++[(kN b k:Int)]:=by unfold Vh;rw[NU,Ns];rfl
theorem valsN_next(b:List UInt8)(k:Nat):JL b (k+1)=JL b k++[vN b k]:=by unfold JL;rw[NU,Ns];rfl
theorem keysN_at(b:List UInt8){i k:Nat}(h:i<k):(Vh b k).getD i 0=(kN b i:Int):=by
 unfold Vh;rw[D9,Lx,List.getElem?_range h];rfl
theorem head_fit{b:List UInt8}(h:QV (n1 b) (lfN b)≠0):QV (n1 b) (lfN b)=(wB b:Int)/\4<=wB b/\(8+wB b)*mB b<=232/\mB b<=18/\wB b<=24:=by
 have hc:=Ok (n1 b) (lfN b);have hw:QV (n1 b) (lfN b)=(wB b:Int):=by unfold wB;omega
 have hm:ZE (n1 b) (lfN b)=mB b:=rfl;rw[hw,hm] at hc;refine⟨hw,by omega,?_,by omega,by omega⟩
 rcases hc with hc|⟨hc,_⟩
 ·omega
 ·rcases hc with hc|hc|hc|hc
  all_goals
   obtain⟨e1,e2⟩:=hc;rw[show wB b=_ from Int.ofNat.inj e1,e2]
   decide
theorem first_any(d:Nat)(A:Option Addr)(c:Nat)(l:List Value)(w:World)(hl:l.length<=1000000000000)(h:Qh w w.heap.size A l)(he:∀v∈l,Qy d w w.heap.size v):
  Calls prog 123 #[.slice A l.length c] w fun e w'=>(∃v,e= .returned v/\ErrIf d w w.heap.size (decide (l≠[])) v)/\w=w':=by
 cases l with
 |nil=>
  clear h he;go_enter func123,ntmps123
  go_wp2_with fail
  refine wp_loop_rounds 1 ?_;rw[rounds_succ];go_wp2;go_ret;exact⟨⟨_,rfl,rfl⟩,rfl⟩
 |cons v l=>
  have hv:=he v (Ll ..);have HV:=DY hv;obtain⟨t,x,rfl⟩:=hv.form;obtain⟨ad,rfl,hb,hc⟩:=h.at_ (k:=0) (by simp);have hc':w.cell? ad=some (.iface t x):=hc;have hll:(0:Int)<((l.length+1:Nat):Int):=by omega
  clear h he hc hv;rw[No] at*;generalize l.length+1=n at*;go_enter func123,ntmps123
  go_wp2_with fail
  refine wp_loop_rounds 1 ?_;rw[rounds_succ];go_wp2;go_ret;exact⟨⟨_,rfl,by simpa[ErrIf] using HV.out⟩,rfl⟩
def OJ(l:List Int)(x:Int):Int:=if x<0∨281474976710655<x then 2 else if 0<l.length/\x<=l.getD (l.length-1) 0 then 8 else 0
theorem key_any(A:Option Addr)(c:Nat)(l:List Int)(x:Int)(w:World)(B:Nat)(hl:l.length<=1000000)(h:Qh w B A (iv l)):
  Calls prog 163 #[.slice A l.length c, .int .i64 x] w fun e w'=>e= .returned (.int .i64 (OJ l x))/\w=w':=by
 by_cases h0:x<0
 ·have hv:OJ l x=2:=by unfold OJ;rw[if_pos (.inl h0)]
  have HV:=DY hv;clear hv h;go_enter func163,ntmps163
  go_wp2;go_ret;exact⟨by rw[HV.out];rfl,rfl⟩
 by_cases h1:281474976710655<x
 ·have hv:OJ l x=2:=by unfold OJ;rw[if_pos (.inr h1)]
  have HV:=DY hv;have d0:decide (x<0)=false:=decide_eq_false h0;clear hv h h0;go_enter func163,ntmps163
  go_wp2;go_ret;exact⟨by rw[HV.out];rfl,rfl⟩
 have hv:OJ l x=if 0<l.length/\x<=l.getD (l.length-1) 0 then 8 else 0:=by unfold OJ;rw[if_neg (by omega)]
 have HV:=DY hv;have d0:decide (x<0)=false:=decide_eq_false h0;have d1:decide (281474976710655<x)=false:=decide_eq_false h1;by_cases hn:l.length=0
 ·have hz:OJ l x=0:=by rw[hv,if_neg (by omega)]
  have HZ:=DY hz;rw[hn];clear hv hz h h0 h1 hn;go_enter func163,ntmps163
  go_wp2;go_ret;exact⟨by rw[HZ.out];rfl,rfl⟩
 obtain⟨k,hk⟩:∃k,l.length=k+1:=⟨l.length-1,by omega⟩
 obtain⟨ad,rfl,-,hc⟩:=h.at_ (k:=k) (by rw[QK];omega);have hy:(iv l)[k]'(by rw[QK];omega)= .int .i64 (l.getD k 0):=by
  simp[iv,D9,D1 (show k<l.length by omega)]
 rw[hy] at hc;rw[hk,Nat.add_sub_cancel] at hv;rw[hk] at hl ⊢;generalize l.getD k 0=y at*;have i1:(0:Int)<(k:Int)+1:=by omega
 have HV:=DY hv;by_cases hxy:x<=y
 ·have hz:OJ l x=8:=by rw[hv,if_pos ⟨by omega,hxy⟩]
  have HZ:=DY hz;clear hv hz h h0 h1 hn hy hk;go_enter func163,ntmps163
  go_wp2;go_ret;exact⟨by rw[HZ.out];rfl,rfl⟩
 ·have hz:OJ l x=0:=by rw[hv,if_neg (fun h=>hxy h.2)]
  have HZ:=DY hz;have d2:decide (x<=y)=false:=decide_eq_false hxy;clear hv hz h h0 h1 hn hy hk hxy;go_enter func163,ntmps163
  go_wp2;go_ret;exact⟨by rw[HZ.out];rfl,rfl⟩
theorem flag_any(b:Bool)(w:World):Calls prog 265 #[.bool b] w fun e w'=>e= .returned (.int .i64 (if b=true then 1 else 0))/\w=w':=by
 cases b;all_goals
  go_enter func265,ntmps265
  go_wp2;go_ret;exact⟨rfl,rfl⟩
structure OW(w:World)(B:Nat)(n:QF)(A:Option Addr)(c:Nat)(A2:Option Addr)(c2:Nat):Prop where
 ky:Qh w B A (iv n.keys)
 vl:Qh w B A2 (sv n.vals)
 kc:n.keys.length<=c
 vc:n.vals.length<=c2
def UL(n:QF)(A:Option Addr)(c:Nat)(A2:Option Addr)(c2:Nat):Array Value:=#[.int .i64 n.t, .bool n.leaf, .slice A n.keys.length c, .slice A2 n.vals.length c2]
section
variable {w w':World} {B:Nat} {n:QF} {A A2:Option Addr} {c c2:Nat}
theorem OW.below(h:OW w B n A c A2 c2)(hb:Below B w w'):OW w' B n A c A2 c2:=⟨h.ky.below hb,h.vl.below hb,h.kc,h.vc⟩
theorem OW.ext(h:OW w w.heap.size n A c A2 c2)(hb:Below w.heap.size w w'):OW w' w'.heap.size n A c A2 c2:=⟨h.ky.ext hb,h.vl.ext hb,h.kc,h.vc⟩
end
theorem sv_getD(l:List (List UInt8)){k:Nat}(h:k<l.length):(sv l)[k]'(by rw[RB];exact h)= .string ⟨(l.getD k []).toArray⟩:=by
 simp[sv,D9,D1 h]
theorem iv_getD(l:List Int){k:Nat}(h:k<l.length):(iv l)[k]'(by rw[QK];exact h)= .int .i64 (l.getD k 0):=by
 simp[iv,D9,D1 h]
theorem getD_take{α:Type}(l:List α)(d:α){k i:Nat}(h:i<k):(l.take k).getD i d=l.getD i d:=by
 rw[D9,D9,Ls,if_pos h]
theorem keyL_at(l:List Int){k:Nat}(h:k<l.length):OJ (l.take k) (l.getD k 0)=keyE l k:=by
 unfold OJ keyE;have hl:(l.take k).length=k:=by rw[Ni];omega
 rw[hl];by_cases h0:0<k
 ·rw[getD_take l 0 (show k-1<k by omega)]
 ·simp[h0]
structure Jy(w:World)(B b:Nat)(n:QF)(A:Option Addr)(c:Nat)(A2:Option Addr)(c2:Nat):Prop where
 q0:w.cell? ⟨b,0,none⟩=some (.int .i64 n.t)
 q1:w.cell? ⟨b,1,none⟩=some (.bool n.leaf)
 q2:w.cell? ⟨b,2,none⟩=some (.slice A n.keys.length c)
 q3:w.cell? ⟨b,3,none⟩=some (.slice A2 n.vals.length c2)
 nr:OW w B n A c A2 c2
theorem Jy.new{w:World}{n:QF}{A:Option Addr}{c:Nat}{A2:Option Addr}{c2:Nat}(h:OW w w.heap.size n A c A2 c2):
  Jy (w.alloc (.cells (UL n A c A2 c2) 113)) w.heap.size w.heap.size n A c A2 c2:=by
 have hb:(w.alloc (.cells (UL n A c A2 c2) 113)).heap[w.heap.size]?=some (.cells (UL n A c A2 c2) 113):=heap_alloc_new w _;exact⟨Qa hb 0 rfl,Qa hb 1 rfl,Qa hb 2 rfl,Qa hb 3 rfl,h.below (Qd w _)⟩
theorem Jy.ext{w w':World}{B b:Nat}{n:QF}{A:Option Addr}{c:Nat}{A2:Option Addr}{c2:Nat}(h:Jy w B b n A c A2 c2)(hb:b<w.heap.size)(hB:B<=w.heap.size)(hw:Below w.heap.size w w'):Jy w' B b n A c A2 c2:=
 ⟨(hw.cell (p:=⟨b,0,none⟩) hb).trans h.q0,(hw.cell (p:=⟨b,1,none⟩) hb).trans h.q1,(hw.cell (p:=⟨b,2,none⟩) hb).trans h.q2,(hw.cell (p:=⟨b,3,none⟩) hb).trans h.q3,h.nr.below (hw.mono hB)⟩
theorem whole_cases(n:QF):(QV n.t n.leaf=0/\YM n=false)∨(QV n.t n.leaf≠0/\ZE n.t n.leaf<n.keys.length/\YM n=false)∨
  (QV n.t n.leaf≠0/\n.keys.length<=ZE n.t n.leaf/\n.vals.length≠n.keys.length/\YM n=false)∨
  (QV n.t n.leaf≠0/\n.keys.length<=ZE n.t n.leaf/\n.vals.length=n.keys.length/\n.leaf=true/\YM n=true)∨
  (QV n.t n.leaf≠0/\n.keys.length<=ZE n.t n.leaf/\n.vals.length=n.keys.length/\n.leaf=false/\n.keys.length=0/\YM n=false)∨
  (QV n.t n.leaf≠0/\n.keys.length<=ZE n.t n.leaf/\n.vals.length=n.keys.length/\n.leaf=false/\0<n.keys.length/\YM n=true):=by
 have hf:∀{b:Bool},b≠true->b=false:=by intro b;cases b<;>simp
 by_cases h1:QV n.t n.leaf=0
 ·exact .inl ⟨h1,hf (fun h=>((XS n).1 h).1 h1)⟩
 by_cases h2:n.keys.length<=ZE n.t n.leaf
 case neg=>exact .inr (.inl ⟨h1,by omega,hf (fun h=>h2 ((XS n).1 h).2.1)⟩)
 by_cases h3:n.vals.length=n.keys.length
 case neg=>exact .inr (.inr (.inl ⟨h1,h2,h3,hf (fun h=>h3 ((XS n).1 h).2.2.1)⟩))
 cases h4:n.leaf with
 |true=>exact .inr (.inr (.inr (.inl ⟨by rw[h4] at h1;exact h1,by rw[h4] at h2;exact h2,h3,rfl,(XS n).2 ⟨h1,h2,h3, .inl h4⟩⟩)))
 |false=>
  rw[h4] at h1 h2;by_cases h5:n.keys.length=0
  ·exact .inr (.inr (.inr (.inr (.inl ⟨h1,h2,h3,rfl,h5,hf (fun h=>by
    rcases((XS n).1 h).2.2.2 with h|h
    ·rw[h4] at h;cases h
    ·omega)⟩))))
  ·exact .inr (.inr (.inr (.inr (.inr ⟨h1,h2,h3,rfl,by omega,(XS n).2 ⟨by rw[h4];exact h1,by rw[h4];exact h2,h3, .inr (by omega)⟩⟩))))
theorem Yw(l:List UInt8)(a x:Int)(hk:Xa x=true)(h0:0<=a)(h1:a+x<=l.length)(h4:x<=4):
  ZZ l a x=((le ((l.drop a.toNat).take x.toNat):Int),0)/\le ((l.drop a.toNat).take x.toNat)<256 ^ x.toNat:=by
 have z1:=OI ((l.drop a.toNat).take x.toNat);have z0:((l.drop a.toNat).take x.toNat).length=x.toNat:=by
  have:=(Zy x).1 hk;rw[Ni,Nq];omega
 rw[z0] at z1;refine⟨?_,z1⟩;have h9:Xd l a x<9223372036854775808:=by
  unfold Xd;have hp:(256:Nat)^ x.toNat<=256 ^ 4:=Ld (by omega) (by omega);have:(256:Nat)^ 4=4294967296:=by decide
  omega
 unfold ZZ;rw[if_pos (XB hk h0 h1),if_pos h9]
 rfl
theorem unp6(l:List UInt8)(h:12<=l.length):X7 l 0 [1,1,2,2,2,4]=0/\Rz l 0 [1,1,2,2,2,4]=[(n0 l:Int),(n1 l:Int),(n2 l:Int),(n3 l:Int),(n4 l:Int),(n5 l:Int)]/\
  n0 l<256/\n1 l<256/\n2 l<65536/\n3 l<65536/\n4 l<65536/\n5 l<4294967296:=by
 obtain⟨g0,b0⟩:=Yw l 0 1 (by decide) (by omega) (by omega) (by omega);obtain⟨g1,b1⟩:=Yw l 1 1 (by decide) (by omega) (by omega) (by omega);obtain⟨g2,b2⟩:=Yw l 2 2 (by decide) (by omega) (by omega) (by omega);obtain⟨g3,b3⟩:=Yw l 4 2 (by decide) (by omega) (by omega) (by omega);obtain⟨g4,b4⟩:=Yw l 6 2 (by decide) (by omega) (by omega) (by omega);obtain⟨g5,b5⟩:=Yw l 8 4 (by decide) (by omega) (by omega) (by omega);have hE:X7 l 0 [1,1,2,2,2,4]=0:=by
  simp only[X7,Int.zero_add,show(1:Int)+1=2 from rfl,show(2:Int)+2=4 from rfl,show(4:Int)+2=6 from rfl,show(6:Int)+2=8 from rfl,g0,g1,g2,g3,g4,g5,if_true]
 refine⟨hE,?_,b0,b1,b2,b3,b4,b5⟩;unfold Rz;rw[if_pos hE];simp only[X8,Int.zero_add,show(1:Int)+1=2 from rfl,show(2:Int)+2=4 from rfl,show(4:Int)+2=6 from rfl,show(6:Int)+2=8 from rfl,g0,g1,g2,g3,g4,g5]
 rfl
theorem getV_eight(l:List UInt8)(i:Nat)(h:12+8*i+8<=l.length):ZZ l (12+8*(i:Int)) 8=(if kN l i<9223372036854775808 then((kN l i:Int),0) else(0,2)):=by
 have hN:Xd l (12+8*(i:Int)) 8=kN l i:=by
  unfold Xd kN;rw[show(12+8*(i:Int)).toNat=12+8*i by omega]
  rfl
 unfold ZZ;rw[if_pos (XB (by decide) (by omega) (by omega)),hN]
end Go.Proofs.YtijcgllddnpmhaaGreatDoor
