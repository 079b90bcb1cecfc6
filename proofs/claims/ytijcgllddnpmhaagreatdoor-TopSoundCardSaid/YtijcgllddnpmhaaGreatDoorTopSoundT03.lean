/- TopSound: lemmas, part 3. -/
import Derived.Test.YtijcgllddnpmhaaGreatDoorTopSoundT02
import Derived.LaidEql
import Derived.Stop.Asserts
import Derived.RowKitTokens
import Derived.Deep.AppendSrc
import Derived.OneCell
import Derived.RangeFuncBox
import Derived.BigQuiet
import Derived.Deep.QuietTactic
import Derived.Deep.DeepCutAuto
import Derived.Lib.IfaceEq
import Derived.Test.YtijcgllddnpmhaaGreatDoorTopSoundT01
import Derived.Lib.AppendZeros
import Derived.Lib.AppendZerosOnto
import Derived.Lib.BufferWrite
import Derived.RangeFuncLeaves
import Derived.RangeFuncWrites
import Derived.Shelf.Abstract
set_option maxRecDepth 100000
set_option maxHeartbeats 16000000
set_option linter.all false
namespace Go.Proofs.YtijcgllddnpmhaaGreatDoor
open Go.RowKit Go.Proofs.Tryz
theorem Zv{w:World}{b:Nat}{o:Obj}(h:w.heap[b]?=some o):b<w.heap.size:=(D0.1 h).1
theorem Qa{w:World}{b:Nat}{cs:Array Value}{t:TypeId}{fr:Nat×Nat}(h:w.heap[b]?=some (.cells cs t fr))(i:Nat){v:Value}(hi:cs[i]?=some v):w.cell? ⟨b,i,none⟩=some v:=by
 unfold World.cell?;rw[h];exact hi
theorem DU {w : World} {b : Nat} {a0 a1 : Value} {xs : List Value} {t : TypeId} {fr : Nat × Nat} (h : w.heap[b]? = some (.cells ⟨a0 :: a1 :: xs⟩ t fr)) : w.cell? ⟨b, 0, none⟩ = some a0∧w.cell? ⟨b, 1, none⟩ = some a1 := ⟨Qa h 0 rfl, Qa h 1 rfl⟩
theorem DV {w : World} {b : Nat} {a0 a1 a2 : Value} {xs : List Value} {t : TypeId} {fr : Nat × Nat} (h : w.heap[b]? = some (.cells ⟨a0 :: a1 :: a2 :: xs⟩ t fr)) : w.cell? ⟨b, 0, none⟩ = some a0∧w.cell? ⟨b, 1, none⟩ = some a1∧w.cell? ⟨b, 2, none⟩ = some a2 := ⟨Qa h 0 rfl, Qa h 1 rfl, Qa h 2 rfl⟩
theorem DW {w : World} {b : Nat} {a0 a1 a2 a3 : Value} {xs : List Value} {t : TypeId} {fr : Nat × Nat} (h : w.heap[b]? = some (.cells ⟨a0 :: a1 :: a2 :: a3 :: xs⟩ t fr)) : w.cell? ⟨b, 0, none⟩ = some a0∧w.cell? ⟨b, 1, none⟩ = some a1∧w.cell? ⟨b, 2, none⟩ = some a2∧w.cell? ⟨b, 3, none⟩ = some a3 := ⟨Qa h 0 rfl, Qa h 1 rfl, Qa h 2 rfl, Qa h 3 rfl⟩
theorem DX {w : World} {b : Nat} {a0 a1 a2 a3 a4 : Value} {xs : List Value} {t : TypeId} {fr : Nat × Nat} (h : w.heap[b]? = some (.cells ⟨a0 :: a1 :: a2 :: a3 :: a4 :: xs⟩ t fr)) : w.cell? ⟨b, 0, none⟩ = some a0∧w.cell? ⟨b, 1, none⟩ = some a1∧w.cell? ⟨b, 2, none⟩ = some a2∧w.cell? ⟨b, 3, none⟩ = some a3∧w.cell? ⟨b, 4, none⟩ = some a4 := ⟨Qa h 0 rfl, Qa h 1 rfl, Qa h 2 rfl, Qa h 3 rfl, Qa h 4 rfl⟩
theorem Qf{w:World}{b:Nat}{cs:Array Value}{t:TypeId}(h:w.heap[b]?=some (.cells cs t (0,0)))(i:Nat):w.frozen? ⟨b,i,none⟩=false:=by
 unfold World.frozen?;rw[h];simp
theorem Qe{w w':World}{b:Nat}{o:Obj}(h:w.heap[b]?=some o)(hb:Below w.heap.size w w'):w'.heap[b]?=some o:=(hb.block b (Zv h)).trans h
theorem Qj{w:World}{b:Nat}{o:Obj}(h:w.heap[b]?=some o)(o':Obj):(w.alloc o').heap[b]?=some o:=Qe h (Qd w o')
theorem Jg{B:Nat}{w w':World}(h:Below B w.drew w'):Below B w w':=((D6 B w).drew).trans h
section
open Go.RowKit Go.Extern.Stop Go.Stop Go.Extern
def VS(w:World)(B:Nat):Nat->Value->Prop
 |0,v=>∃n,v= .iface 37 (.int .i64 n)
 |k+1,v=>∃g b e,v= .iface 177 (.pointer (some ⟨g,0,none⟩))/\g<B/\w.heap[g]?=some (.cells #[.int .i64 b,e] 179)/\VS w B k e
def Qy(d:Nat)(w:World)(B:Nat)(v:Value):Prop:=∃k,k<=d/\VS w B k v
theorem VS.below{w w':World}{B:Nat}(hb:Below B w w'):∀{k:Nat} {v:Value},VS w B k v->VS w' B k v
 |0,_,h=>h
 |_+1,_,⟨g,b,e,h1,h2,h3,h5⟩=>⟨g,b,e,h1,h2,(hb.block g h2).trans h3,h5.below hb⟩
theorem VS.more{w:World}{B B':Nat}(hB:B<=B'):∀{k:Nat} {v:Value},VS w B k v->VS w B' k v
 |0,_,h=>h
 |_+1,_,⟨g,b,e,h1,h2,h3,h5⟩=>⟨g,b,e,h1,by omega,h3,h5.more hB⟩
theorem VS.form{w:World}{B k:Nat}{v:Value}(h:VS w B k v):∃t x,v= .iface t x:=by
 cases k with
 |zero=>obtain⟨n,rfl⟩:=h;exact⟨_,_,rfl⟩
 |succ k=>obtain⟨g,b,e,rfl,_⟩:=h;exact⟨_,_,rfl⟩
theorem VS.kept{w w':World}{B:Nat}(hk:∀(g:Nat) (cs:Array Value),w.heap[g]?=some (Obj.cells cs 179)->w'.heap[g]?=some (Obj.cells cs 179)):∀{k:Nat} {v:Value},VS w B k v->VS w' B k v
 |0,_,h=>h
 |_+1,_,⟨g,b,e,h1,h2,h3,h5⟩=>⟨g,b,e,h1,h2,hk g _ h3,h5.kept hk⟩
section
variable {d:Nat} {w w':World} {B B':Nat} {v:Value}
theorem Qy.kept(hk:∀(g:Nat) (cs:Array Value),w.heap[g]?=some (Obj.cells cs 179)->w'.heap[g]?=some (Obj.cells cs 179))(h:Qy d w B v):Qy d w' B v:=let⟨k,hd,h⟩:=h;⟨k,hd,h.kept hk⟩
theorem Qy.grown{r:Nat}{cs:Array Value}{t:TypeId}{fz:Nat×Nat}(h:Qy d w B v)(hr:w.heap[r]?=some (.cells cs t fz))(ht:t≠179)(hg:w.grownBy w' (some r)):Qy d w' B v:=
 h.kept fun g cs' hx=>(hg.block g (Zv hx) (fun e=>by injection e with e;subst e;rw[hx] at hr;injection hr with hr;injection hr with _ h2 _;exact ht h2.symm)).trans hx
theorem Qy.below(h:Qy d w B v)(hb:Below B w w'):Qy d w' B v:=let⟨k,hk,h⟩:=h;⟨k,hk,h.below hb⟩
theorem Qy.more(h:Qy d w B v)(hB:B<=B'):Qy d w B' v:=let⟨k,hk,h⟩:=h;⟨k,hk,h.more hB⟩
theorem Qy.up{d':Nat}(h:Qy d w B v)(hd:d<=d'):Qy d' w B v:=let⟨k,hk,h⟩:=h;⟨k,by omega,h⟩
theorem Qy.ext(h:Qy d w w.heap.size v)(hb:Below w.heap.size w w'):Qy d w' w'.heap.size v:=(h.below hb).more hb.size
theorem Qy.num(d:Nat)(w:World)(B:Nat)(n:Int):Qy d w B (.iface 37 (.int .i64 n)):=⟨0,Lb _,n,rfl⟩
theorem Qy.form(h:Qy d w B v):∃t x,v= .iface t x:=let⟨_,_,h⟩:=h;h.form
theorem Qy.fault(b:Int)(h:Qy d w w.heap.size v):Qy (d+1) (w.alloc (.cells #[.int .i64 b,v] 179)) (w.heap.size+1) (.iface 177 (.pointer (some ⟨w.heap.size,0,none⟩))):=by
 obtain⟨k,hd,h⟩:=h;have hk:=heap_alloc_new w (.cells #[.int .i64 b,v] 179);exact⟨k+1,by omega,w.heap.size,b,v,rfl,N7 _,hk,(h.below (Qd w _)).more (Nat.le_succ _)⟩
end
def ErrIf(d:Nat)(w:World)(B:Nat)(bad:Bool)(v:Value):Prop:=if bad=true then Qy d w B v else v= .nilIface
def GF(d:Nat)(w:World)(e:Ending)(w':World):Prop:=∃v,e= .returned v/\Qy d w' w'.heap.size v/\Below w.heap.size w w'
theorem Xk(d:Nat)(b:Int)(v:Value)(w:World)(h:Qy d w w.heap.size v):Calls prog 33 #[.int .i64 b,v] w (GF (d+1) w):=by
 have HF:=DY (Qy.fault b h);obtain⟨t,x,rfl⟩:=h.form;clear h;go_enter func33,ntmps33
 go_wp2;go_ret;exact⟨_,rfl,by simpa using HF.out,Qd _ _⟩
theorem Tryz.noUnwE(v:Value)(xT:TypeId)(w:World):(Instr.typeAssert (.iface 37 v) xT 317 true).run prog w= .ok (.tuple #[.nilIface, .bool false]) w:=run_typeAssert_lacksB underlying317 (by kernel_rfl) (by kernel_rfl) v xT w
theorem Tryz.noUnwsE(v:Value)(xT:TypeId)(w:World):(Instr.typeAssert (.iface 37 v) xT 319 true).run prog w= .ok (.tuple #[.nilIface, .bool false]) w:=run_typeAssert_lacksB underlying319 (by kernel_rfl) (by kernel_rfl) v xT w
theorem Tryz.noIsE(v:Value)(xT:TypeId)(w:World):(Instr.typeAssert (.iface 37 v) xT 411 true).run prog w= .ok (.tuple #[.nilIface, .bool false]) w:=run_typeAssert_lacksB underlying411 (by kernel_rfl) (by kernel_rfl) v xT w
theorem Tryz.hasUnwF(v:Value)(xT:TypeId)(w:World):(Instr.typeAssert (.iface 177 v) xT 317 true).run prog w= .ok (.tuple #[.iface 177 v, .bool true]) w:=run_typeAssert_hasB underlying317 (by kernel_rfl) v xT w
theorem Tryz.methodUnw(v:Value)(w:World):(Go.method 570 177 v "Unwrap").run prog w= .ok (311,v) w:=by kernel_rfl
theorem eunwrap_num(n:Int)(w:World):Calls prog 260 #[.iface 37 (.int .i64 n)] w fun e w'=>e= .returned .nilIface/\w=w':=by
 have h1:=Tryz.noUnwE;go_enter func260,ntmps260
 go_wp2;go_ret;exact⟨rfl,rfl⟩
theorem GP(g:Nat)(v:Value)(w:World)(h:w.cell? ⟨g,1,none⟩=some v):Calls prog 260 #[.iface 177 (.pointer (some ⟨g,0,none⟩))] w fun e w'=>e= .returned v/\w=w':=by
 have h1:=Tryz.hasUnwF;have mU:=Tryz.methodUnw;go_enter func260,ntmps260
 go_wp2;go_ret;exact⟨rfl,rfl⟩
end
theorem bytes_cells(l:List UInt8):byteCells ⟨l.toArray⟩=bv l:=by simp[byteCells,bv]
def sv(l:List (List UInt8)):List Value:=l.map fun s=> .string ⟨s.toArray⟩
theorem RB(l:List (List UInt8)):(sv l).length=l.length:=by simp[sv]
theorem sv_append(a b:List (List UInt8)):sv (a++b)=sv a++sv b:=by simp[sv]
theorem sv_get(l:List (List UInt8))(k:Nat)(h:k<l.length):(sv l)[k]?=some (.string ⟨l[k].toArray⟩):=by simp[sv,h]
section
variable {P:Program} (w:World)
theorem RP(base:Nat)(t tx ty e:TypeId)(i:TypeInfo)(z:Value)(ht:P.underlying t=some (.slice e))(htx:P.underlying tx=some .string)(hi:P.info? e=some i)(hz:i.zero=some z)
  (hsize:i.size=1) (hby:i.bytes=1) (hzs:z.cells.size=1)
  (v:Value) (n:Nat) (xs:List Value) (hown:w.ownsRow base e 1 v n xs) (l:List UInt8)
  (h63:n+l.length<=140737488355328) (hbase:base<=w.heap.size):
  ∃v' w',(Builtin.append_ #[t,tx] ty #[v, .string ⟨l.toArray⟩]).run P w= .ok v' w'/\w'.ownsRow base e 1 v' (n+l.length) (xs++bv l)/\w.grownBy w' v.ownBlock/\
   (v'.ownBlock=v.ownBlock∨v'.ownBlock=some w.heap.size):=by
 have z0:=Src.ofString (P:=P) w htx ⟨l.toArray⟩;rw[bytes_cells,show(ByteArray.mk l.toArray).size=l.length by simp[ByteArray.size]] at z0
 rcases hown.2 with⟨rfl,rfl⟩|⟨g,z1,z6,rfl,zb,hg,hnc,z4,za,z2⟩
 ·have hx:xs=[]:=NL (by simpa using hown.1);subst hx;by_cases hm:l.length=0
  ·have:l=[]:=NL hm;subst this;refine⟨.slice none 0 0,w,?_,Nb w base e 1,NT w _, .inl rfl⟩;simp[Builtin.append_,run_underlying ht,run_underlying htx,sizeOf,typeInfo,hi,Builtin.lenOf,Builtin.firstCells,ByteArray.size]
  ·have hr:=run_append_grow_src (P:=P) w t tx ty e i z ht hi hz none 0 0 [] (by simp[Builtin.firstCells]) (.string ⟨l.toArray⟩) l.length (bv l) (by rw[hsize];exact z0) (by omega) (by simp;omega) (growslice_fits (by omega) (by rw[hby];omega));simp only[Nat.zero_add,Np] at hr h63 ⊢;have z7:=grownCap_ge w l.length 0 e;have z4:grownCap w l.length 0 e<=maxLen:=grownCap_le_maxLen w l.length 0 e (by simp only[maxLen];omega);refine⟨_,_,hr,⟨by simp[Qm], .inr ⟨w.heap.size,_,_,rfl,hbase,heap_alloc_new w.drew _,z7,z4,?_,?_⟩⟩,⟨rfl,rfl,rfl,by simp,fun k hk _=>(Qd w.drew _).block _ hk⟩, .inr rfl⟩
   ·simp only[Array.size_append,Ny,size_zeroCells,hzs,Qm];omega
   ·simp only[LO,NE];rw[<-Qm l];exact List.take_left
 ·have z3:xs.length=n:=by simpa using hown.1
  simp only[NE] at za z2;by_cases hroom:n+l.length<=z1
  ·have z8:n*i.size+(bv l).length<=z6.size:=by rw[hsize,Qm,za];omega
   have z9:=run_storeCells_at P g (n*i.size) e (bv l) 0 z6 w hg (by simpa using z8) (Yz l);simp only[Nat.add_zero] at z9;have hr:(Builtin.append_ #[t,tx] ty #[.slice (some ⟨g,0,none⟩) n z1, .string ⟨l.toArray⟩]).run P w= .ok (.slice (some ⟨g,0,none⟩) (n+l.length) z1) (w.setRow g (z6.toList.take (n*i.size)++bv l++z6.toList.drop (n*i.size+(bv l).length)).toArray):=by
    have hc:=z0.cells;rw[<-hsize] at hc;simp[Builtin.append_,run_underlying ht,run_underlying htx,sizeOf,typeInfo,hi,z0.len,hroom,hc,Addr.add_lit,z9]
   rw[hsize,NE] at hr;refine⟨_,_,hr,⟨by simp[Qm,z3], .inr ⟨g,z1,_,rfl,zb,setRow_heap w g z6 _ e _ hg,hroom,z4,?_,?_⟩⟩,⟨rfl,rfl,rfl,by simp,fun k hk hne=>setRow_other w g k _ (fun e=>hne (by simp[Value.ownBlock,e]))⟩, .inl rfl⟩
   ·simp only[Ny,D7,Ni,Nq,Ly,Qm];omega
   ·rw[z2,NE,show n+l.length=(xs++bv l).length by rw[D7,Qm,z3]]
    exact List.take_left
  ·have z5:∀j u,xs[j]?=some u->w.cell? ((⟨g,0,none⟩:Addr).add j)=some u:=hown.cells (g:=g) rfl;have hr:=run_append_grow_src (P:=P) w t tx ty e i z ht hi hz (some ⟨g,0,none⟩) n z1 xs (by rw[hsize];exact run_firstCells_some w.drew 1 n ⟨g,0,none⟩ n z1 xs (by omega) (by simpa using z5)) (.string ⟨l.toArray⟩) l.length (bv l) (by rw[hsize];exact z0) (by omega) (by omega) (growslice_fits (by omega) (by rw[hby];omega));have z7:=grownCap_ge w (n+l.length) z1 e;have z4:grownCap w (n+l.length) z1 e<=maxLen:=grownCap_le_maxLen w (n+l.length) z1 e (by simp only[maxLen];omega);refine⟨_,_,hr,⟨by simp[Qm,z3], .inr ⟨w.heap.size,_,_,rfl,hbase,heap_alloc_new w.drew _,z7,z4,?_,?_⟩⟩,⟨rfl,rfl,rfl,by simp,fun k hk _=>(Qd w.drew _).block _ hk⟩, .inr rfl⟩
   ·simp only[Array.size_append,Ny,D7,size_zeroCells,hzs,Qm,z3];omega
   ·simp only[LO,NE];rw[show n+l.length=(xs++bv l).length by rw[D7,Qm,z3]]
    exact List.take_left
theorem Oj{ops:Array Oper}{rest:List Oper}{o:Oper}{a:Act}{Q:Exit->Act->World->Prop}(hgd:o.guard=none)(s x:Operand)(t tx:TypeId)
  (ho:o.op= .call {callee:= .builtin .append,args:=#[s,x],argTypes:=#[t,tx]})
  (base:Nat) (e:TypeId) (i:TypeInfo) (z:Value) (ht:P.underlying t=some (.slice e)) (htx:P.underlying tx=some .string) (hi:P.info? e=some i) (hz:i.zero=some z)
  (hsize:i.size=1) (hby:i.bytes=1) (hzs:z.cells.size=1)
  (v:Value) (n:Nat) (xs:List Value) (hs:a.eval s=v) (hown:w.ownsRow base e 1 v n xs)
  (l:List UInt8) (hx:a.eval x= .string ⟨l.toArray⟩) (h63:n+l.length<=140737488355328) (hbase:base<=w.heap.size)
  (h:∀A' c' w',w'.ownsRow base e 1 (.slice A' (n+l.length) c') (n+l.length) (xs++bv l)->w.grownBy w' v.ownBlock->Below base w w'->
   wpList P ops Q rest (a.put o.dst (.slice A' (n+l.length) c')) w'):wpList P ops Q (o::rest) a w:=
 wpList_plain hgd fun _ hK=>by
  obtain⟨v',w',z0,h2,h3,h4⟩:=RP (P:=P) w base t tx o.type e i z ht htx hi hz hsize hby hzs v n xs hown l h63 hbase;obtain⟨A',c',rfl⟩:=QN h2;unfold Oper.wp execOp;simp only[ho,resolve,invoke,builtin,Sem.run_bind,Sem.run_pure,Result.andThen_ok,LB,Lg,List.map_nil,hs,hx,z0];exact hK _ _ (h A' c' w' h2 h3 (ZF hown hbase h3))
end
section
variable {P:Program}
theorem Da(w:World)(dT sT ty e:TypeId)(hu:P.underlying dT=some (.slice e))(hsz:(P.info? e).map (·.size)=some 1)
  (base g n cap:Nat) (xs:List Value) (hown:w.ownsRow base e 1 (.slice (some ⟨g,0,none⟩) n cap) n xs) (off d:Nat) (hoff:off+d<=n) (hd0:0<d) (dCap:Nat)
  (B:Nat) (A:Option Addr) (c:Nat) (news:List Value) (hm:news.length=d) (hr:Qh w B A news) (h1:∀u∈news,u.oneCell'=true):
  ∃w',(Builtin.copy_ #[dT,sT] ty #[.slice (some ⟨g,off,none⟩) d dCap, .slice A d c]).run P w= .ok (goInt d) w'/\
   w'.ownsRow base e 1 (.slice (some ⟨g,0,none⟩) n cap) n (xs.take off++(news++xs.drop (off+d)))/\w.grownBy w' (some g)/\w'.heap.size=w.heap.size:=by
 have z4:=hown.1;simp only[NE] at z4;obtain⟨ad,rfl,_,hc⟩:=hr (by omega);rcases hown.2 with⟨h',_⟩|⟨g',cap',z1,h',hb,hg,z6,z7,z8,z0⟩
 ·cases h'
 ·simp only[Value.slice.injEq,Li,Addr.mk.injEq,and_true,true_and] at h';obtain⟨rfl,rfl⟩:=h';simp only[NE] at z8 z0;have z3:=run_copy_row (P:=P) w dT sT ty e g off d dCap ad d c z1 e news hu hsz hg (by rw[hm];exact(Nat.min_self d).symm) (fun j v hj=>hc j v hj) (by omega) (fun v hv=>h1 v hv);have z2:z1.toList=xs++z1.toList.drop n:=by rw[<-z0,N0]
  have hL:(z1.toList.take off++news++z1.toList.drop (off+d))=(xs.take off++(news++xs.drop (off+d)))++z1.toList.drop n:=by
   conv=>lhs;rw[z2]
   rw[N4 (by omega),List.drop_append_of_le_length (by omega)];simp
  have z5:(xs.take off++(news++xs.drop (off+d))).length=n:=by
   simp only[List.length_append,Ni,Nq];omega
  refine⟨_,by rw[z3,hm],⟨by rw[z5,NE], .inr ⟨g,cap,_,rfl,hb,setRow_heap w g z1 _ e _ hg,z6,z7,?_,?_⟩⟩,⟨rfl,rfl,rfl,by simp,fun k _ hk=>setRow_other w g k _ (fun e=>hk (by rw[e]))⟩,by simp⟩
  ·rw[hL,Ny,D7,z5,Nq,Ly,NE];omega
  ·rw[hL,NE,N4 (by omega),NW (by omega)]
theorem KY{ops:Array Oper}{rest:List Oper}{o:Oper}{a:Act}{w:World}{Q:Exit->Act->World->Prop}(hgd:o.guard=none)(d s:Operand)(dT sT:TypeId)
  (ho:o.op= .call {callee:= .builtin .copy,args:=#[d,s],argTypes:=#[dT,sT]}) (e:TypeId) (hu:P.underlying dT=some (.slice e)) (hsz:(P.info? e).map (·.size)=some 1)
  (base g n cap:Nat) (xs:List Value) (hown:w.ownsRow base e 1 (.slice (some ⟨g,0,none⟩) n cap) n xs) (off k:Nat) (hoff:off+k<=n) (hd0:0<k) (dCap:Nat)
  (hd:a.eval d= .slice (some ⟨g,off,none⟩) k dCap)
  (B:Nat) (A:Option Addr) (c:Nat) (news:List Value) (hs:a.eval s= .slice A k c) (hm:news.length=k) (hr:Qh w B A news) (h1:∀u∈news,u.oneCell'=true)
  (h:∀w',w'.ownsRow base e 1 (.slice (some ⟨g,0,none⟩) n cap) n (xs.take off++(news++xs.drop (off+k)))->w.grownBy w' (some g)->w'.heap.size=w.heap.size->
   wpList P ops Q rest (a.put o.dst (goInt k)) w'):wpList P ops Q (o::rest) a w:=by
 refine wpList_plain hgd fun K hK=>?_
 obtain⟨w',z0,h2,h3,h4⟩:=Da (P:=P) w dT sT o.type e hu hsz base g n cap xs hown off k hoff hd0 dCap B A c news hm hr h1;unfold Oper.wp;simp[execOp,ho,resolve,invoke,builtin,hd,hs,z0,Result.andThen];exact hK _ _ (h w' h2 h3 h4)
end
def GivesX(e:TypeId)(xs:List Value)(err:Int)(w:World)(en:Ending)(w':World):Prop:=
 ∃A c,en= .returned (.tuple #[.slice A xs.length c, .int .i64 err])/\w'.ownsRow w.heap.size e 1 (.slice A xs.length c) xs.length xs/\Below w.heap.size w w'
theorem Tryz.infoI64:(prog.info? 3).map (fun i=>(i.zero,i.size,i.bytes))=some (some (.int .i64 0),1,8):=by kernel_rfl
theorem Zn{B:Nat}{w w':World}(h:Below B w w')(k:Nat):Below B w (w'.drewN k):=⟨h.os,h.tape,h.output,h.size,h.block⟩
section
open Go.RowKit Go.Extern.Stop Go.Stop Go.Extern
theorem Tryz.isTypeOfN(v:Value)(w:World):(Extern.ReflectliteType.typeOf #[.iface 37 v]).run prog w= .ok (.iface 309 (.agg #[.pointer (some ⟨1,37,none⟩)])) w:=by kernel_rfl
def Tryz.compF:Array Value->Sem Value:=Extern.ReflectliteType.method fun t=>do Extern.Rtype.noPackHeld "Comparable" t;pure (.bool (<-typeInfo t).comparable)
theorem Tryz.isComparableN(w:World):(Tryz.compF #[.agg #[.pointer (some ⟨1,37,none⟩)]]).run prog w= .ok (.bool true) w:=by kernel_rfl
theorem Tryz.isMethodComparable(v:Value)(w:World):(Go.method 570 309 v "Comparable").run prog w= .ok (317,v) w:=by kernel_rfl
theorem Tryz.eqErrno(a b:Int)(w:World):(binOp .eql 32 (.iface 37 (.int .i64 a)) (.iface 37 (.int .i64 b))).run prog w= .ok (.bool (a==b)) w:=
 Lib.run_eql_iface_int w a b underlying32 (by kernel_rfl) underlying37
theorem eis_num(a b:Int)(w:World):Calls prog 206 #[.iface 37 (.int .i64 a), .iface 37 (.int .i64 b)] w fun e w'=>e= .returned (.bool (a==b))/\w=w':=by
 have h8:= @run_callFunc_extern prog 185 _ Extern.ReflectliteType.typeOf func185 (by kernel_rfl) (by kernel_rfl) (by kernel_rfl) (by kernel_rfl);have h32:= @run_callFunc_extern prog 317 _ Tryz.compF func317 (by kernel_rfl) (by kernel_rfl) (by kernel_rfl) (by kernel_rfl);have tT:=Tryz.isTypeOfN;have cT:=Tryz.isComparableN;have mR:=Tryz.isMethodComparable;have nE:=Tryz.noIsE;have uE:=Tryz.noUnwE;have vE:=Tryz.noUnwsE;have z0:=Tryz.eqErrno a b w;cases hab:(a==b) with
 |true=>
  rw[hab] at z0;clear hab;go_enter func206,ntmps206
  go_wp2;refine wp_loop_rounds 1 ?_;rw[rounds_succ];go_wp2;go_ret;exact⟨rfl,rfl⟩
 |false=>
  rw[hab] at z0;clear hab;go_enter func206,ntmps206
  go_wp2;refine wp_loop_rounds 1 ?_;rw[rounds_succ];go_wp2;go_ret;exact⟨rfl,rfl⟩
theorem UD(b n:Int)(h:n≠0)(w:World):Calls prog 149 #[.int .i64 b, .iface 37 (.int .i64 n)] w (GF 1 w):=by
 have h1:=eis_num n 0 w;have h2:=Xk 0 b (.iface 37 (.int .i64 n)) w (Qy.num _ _ _ _);rw[show(n==0)=false by rw[beq_eq_false_iff_ne];exact h] at h1
 clear h;go_enter func149,ntmps149
 go_wp2_with fail
 refine h1.mono ?_;rintro e w1 ⟨rfl,rfl⟩;clear h1;go_wp2_with fail
 refine h2.mono ?_;rintro e w1 ⟨v,rfl,hv,hb⟩;clear h2;go_wp2;go_ret;exact⟨v,rfl,hv,hb⟩
theorem btold_ok(b:Int)(w:World):Calls prog 149 #[.int .i64 b, .iface 37 (.int .i64 0)] w fun e w'=>e= .returned .nilIface/\w=w':=by
 have h1:=eis_num 0 0 w;go_enter func149,ntmps149
 go_wp2_with fail
 refine h1.mono ?_;rintro e w1 ⟨rfl,rfl⟩;clear h1;go_wp2;go_ret;exact⟨rfl,rfl⟩
end
section
attribute [local go_sem ↓] Go.wp_at_zero Go.wp_at_succ
def Xl(e:TypeId)(xs:List Value)(err:Int)(w:World)(en:Ending)(w':World):Prop:=
 ∃A c,en= .returned (.tuple #[.slice A xs.length c, .int .i64 err])/\w'.ownsRow w.heap.size e 1 (.slice A xs.length c) xs.length xs/\Below w.heap.size w w'
theorem fitsB_ok{n x:Int}(h:XD n x=true)(_hk:Xa x=true):∃m:Nat,n=m:=by
 simp[XD] at h;exact NB h.1
theorem Dg(A:Option Addr)(c:Nat)(l:List UInt8)(a x n:Int)(w:World)(B:Nat)(hB:B<=w.heap.size)(hn:(Lit.int .i64 n).wf=true)(hm:l.length<=reachBytes)(h:Qh w B A (bv l)):
  Calls prog 233 #[.slice A l.length c, .int .i64 a, .int .i64 x, .int .i64 n] w (Xl 5 (bv (UI l a x n)) (VL l a x n) w):=by
 have zl:=hm;simp only[reachBytes] at zl;have z6:∀e:Int,e≠0->XG l.length a x=e->UI l a x n=[]/\VL l a x n=e:=fun e h0 h=>by
  have:VL l a x n=e:=by unfold VL;rw[h,if_neg h0]
  exact⟨by unfold UI;rw[if_neg (by omega)],this⟩
 rcases Oo l.length a x with ht|ht|ht
 ·obtain⟨hk,h0,h1⟩:=Vs ht;clear z6;by_cases hf:XD n x=true
  ·have hE:VL l a x n=0:=by unfold VL;rw[if_pos ht,if_pos hf]
   have hV:UI l a x n=Dh l a x n:=by unfold UI;rw[if_pos hE]
   rw[hE,hV];obtain⟨m,rfl⟩:=fitsB_ok hf hk;have hx:=(Zy x).1 hk;obtain⟨z0,rfl⟩:=NB h0;obtain⟨wd,rfl⟩:=NB (show 0<=x by omega);have hpos:0<wd/\z0+wd<=l.length:=by omega
   have zg:=(wf_i64 hn).2;have zf:=ET m (by omega) wd hk;have HT:=DY ht;have HF:=DY hf;clear ht hf hx hE hV hk;go_enter func233,ntmps233
   go_wp2_with fail
   refine(Yo _ _ _ _ _ _ hm).mono ?_;rintro e w' ⟨rfl,rfl⟩;rw[HT.out];go_wp2_with fail
   refine(ON _ _ _).mono ?_;rintro e w' ⟨rfl,rfl⟩;rw[HF.out];go_wp2_with fail
   refine(Y5 A c l w B hB hm h).mono ?_;rintro e w1 ⟨A1,c1,rfl,z3,zk⟩;rw[Qm] at z3 ⊢;obtain⟨g,zd,zi⟩:∃g,A1=some ⟨g,0,none⟩/\l.length<=c1/\c1<=maxLen:=by
    rcases z3.2 with⟨h',hz⟩|⟨g,cap,cur,h',_,_,ze,zn,_⟩
    ·omega
    ·simp only[Value.slice.injEq,true_and] at h';obtain⟨h1,rfl⟩:=h';exact⟨g,h1,ze,zn⟩
   subst zd;obtain⟨hlc1,z8⟩:=zi;clear z8 zg;have i1:(0:Int)<=(z0:Int):=by omega
   have i2:(z0:Int)<=(l.length:Int):=by omega
   have i3:(l.length:Int)<=(c1:Int):=by omega
   go_wp2_with fail
   have z9:(prog.info? 5).map (·.size)=some 1:=by kernel_rfl
   go_region_held3 (fun _=>True) (trivial) (first|(go_at_call 222;refine(zf _).mono ?_;rintro e w2 ⟨A2,c2,rfl,z1,z7⟩;rw[Qm,QM] at z1 ⊢;have z2:=QT (show w1.drew.ownsRow w.heap.size 5 1 (.slice (some ⟨g,0,none⟩) l.length c1) l.length (bv l) from z3.drew) z7)|(refine E7 rfl (.tmp 27) (.tmp 30) _ _ rfl 5 underlying22 z9 w.heap.size g l.length c1 (bv l) z2 z0 (by omega) (some ⟨g,z0,none⟩) _ _ rfl rfl (fun _=>rfl) _ A2 wd c2 (bv (leb wd m)) rfl (by rw[Qm,QM]) (Qh.of_own z1) (Yz _) (own_base z2) ?_;intro w3 z5 zm zb zj))
   have z4:(bv l).take z0++((bv (leb wd m)).take (l.length-z0)++(bv l).drop (z0+(bv (leb wd m)).length))=bv (Dh l z0 wd m):=by
    unfold Dh;rw[Qm,QM,List.take_of_length_le (l:=bv (leb wd m)) (by rw[Qm,QM];omega),Ze,Ze,Xi,Xj,show((z0:Int)+(wd:Int)).toNat=z0+wd by omega]
    simp
   have za:(Dh l z0 wd m).length=l.length:=by
    unfold Dh;simp only[D7,Ni,Nq,QM];omega
   rw[z4] at z5;have zh:Below w.heap.size w w3:=(Qb zk (show Below w1.heap.size w1 w2 from((D6 _ w1).drew).trans z7)).trans zb;have zc:=DY za;clear z4 za z7 zb zm zj z1 z2 z3;go_wp2;go_ret2
   exact⟨_,c1,by rw[Qm,zc.out];rfl,by rw[Qm,zc.out];exact z5,zh⟩
  ·have hf':XD n x=false:=by simpa using hf
   have hE:VL l a x n=2:=by unfold VL;rw[if_pos ht,hf',if_neg (by decide)]
   have hV:UI l a x n=[]:=by unfold UI;rw[if_neg (by omega)]
   rw[hE,hV];have HT:=DY ht;have HF:=DY hf';clear ht hf hf' hE hV;go_enter func233,ntmps233
   go_wp2_with fail
   refine(Yo _ _ _ _ _ _ hm).mono ?_;rintro e w' ⟨rfl,rfl⟩;rw[HT.out];go_wp2_with fail
   refine(ON _ _ _).mono ?_;rintro e w' ⟨rfl,rfl⟩;rw[HF.out];go_wp2;go_ret2
   exact⟨none,0,rfl,World.ownsRow_nil _ _ _ _,D6 _ _⟩
 ·obtain⟨hV,hE⟩:=z6 1 (by decide) ht;rw[hE,hV];have HT:=DY ht;clear ht hE hV z6;go_enter func233,ntmps233
  go_wp2_with fail
  refine(Yo _ _ _ _ _ _ hm).mono ?_;rintro e w' ⟨rfl,rfl⟩;rw[HT.out];go_wp2;go_ret2
  exact⟨none,0,rfl,Nb _ _ _ _,D6 _ _⟩
 ·obtain⟨hV,hE⟩:=z6 3 (by decide) ht;rw[hE,hV];have HT:=DY ht;clear ht hE hV z6;go_enter func233,ntmps233
  go_wp2_with fail
  refine(Yo _ _ _ _ _ _ hm).mono ?_;rintro e w' ⟨rfl,rfl⟩;rw[HT.out];go_wp2;go_ret2
  exact⟨none,0,rfl,Nb _ _ _ _,D6 _ _⟩
end
theorem OE(a b:List (Int×Int)):Zu (a++b)=if Zu a=0 then Zu b else Zu a:=by
 induction a with
 |nil=>simp[Zu]
 |cons x a ih=>
  obtain⟨wd,n⟩:=x;simp only[NH,Zu,ih]
  split
  ·split
   ·rfl
   ·simp
  ·simp
theorem Dl(a b:List (Int×Int)):ZC (a++b)=ZC a++ZC b:=by
 induction a with
 |nil=>rfl
 |cons x a ih=>obtain⟨wd,n⟩:=x;simp[ZC,ih]
theorem packB_len(ls:List (Int×Int))(h:Zu ls=0):(ZC ls).length<=8*ls.length:=by
 induction ls with
 |nil=>simp[ZC]
 |cons x ls ih=>
  obtain⟨wd,n⟩:=x;simp only[Zu] at h
  split at h
  ·rename_i hk
   split at h
   ·have:=(Zy wd).1 hk;simp only[ZC,D7,QM,No];have:=ih h;omega
   ·cases h
  ·cases h
theorem J0(A:Option Addr)(c:Nat)(ls:List (Int×Int))(w:World)(hm:ls.length*16<=reachBytes)(hw:∀p∈ls,(Lit.int .i64 p.2).wf=true)(h:YC w w.heap.size A ls):
  Calls prog 164 #[.slice A ls.length c] w (Xl 5 (bv (YH ls)) (Zu ls) w):=by
 simp only[reachBytes] at hm;have HW:=DY hw;clear hw;obtain⟨i0,hi,zl,zi,zj⟩:=info_parts Tryz.infoU8;go_enter func164,ntmps164
 go_wp2_with fail
 go_loopw [4,9] (fun v i wr=>∃(k m:Nat),k<=ls.length/\i= .int .i64 k/\Zu (ls.take k)=0/\m=(ZC (ls.take k)).length/\wr.ownsRow w.heap.size 5 1 v m (bv (ZC (ls.take k)))/\Below w.heap.size w wr) (fun _ i _=>ls.length-(intOf i).toNat)
 case atStart=>exact⟨0,0,by omega,rfl,rfl,rfl,Nb _ _ _ _,D6 _ _⟩
 case round=>
  obtain⟨k,m,hk,rfl,he,z4,z2,z3⟩:=hrel;by_cases hlt:k<ls.length
  ·obtain⟨b,o,rfl,hbb,hc⟩:=h.below z3 (by omega);have hp:=D1 hlt;have z6:=hc k _ hp;have z8:=HW.out ls[k] (Nm hlt);have za:=Xn ls k hlt;have hE:Zu (ls.take (k+1))=Zu [ls[k]]:=by rw[za,OE,if_pos he]
   have z7:Zu ls=if Zu [ls[k]]=0 then Zu (ls.drop (k+1)) else Zu [ls[k]]:=by
    conv=>lhs;rw[<-N0 (k+1) ls]
    rw[OE,hE]
   have hB':ZC (ls.take (k+1))=ZC (ls.take k)++ZC [ls[k]]:=by rw[za,Dl]
   have zb:=packB_len (ls.take k) he;rw[Ni,<-z4] at zb;have z9:=DY z4;have zf:=DY he;have HE:=DY hE;have z0:=DY z7;have HB:=DY hB';obtain⟨zm,DU⟩:=z6;clear hc hp za hE z7 hB' z4 he;generalize hq:ls[k]=q at*;obtain⟨wd,n⟩:=q;clear hq;simp only at zm DU z8;by_cases hkn:Xa wd=true
   ·by_cases hft:XD n wd=true
    ·obtain⟨n',rfl⟩:=fitsB_ok hft hkn;have h1:Zu [(wd,(n':Int))]=0:=by simp[Zu,hkn,hft]
     have h2:ZC [(wd,(n':Int))]=leb wd.toNat n':=by simp[ZC]
     have zd:=(Zy wd).1 hkn;have ze:=ET n' (by have:=(wf_i64 z8).2;omega) wd hkn;rw[h1] at HE;rw[h2] at HB;obtain⟨x,rfl⟩:=Int.eq_ofNat_of_zero_le (show 0<=wd by omega);rw[N3] at ze HB;have hx8:x<=8:=by omega
     have HK:=DY hkn;have HF:=DY hft;clear hkn hft h1 h2 z0 z8 zd;go_wp2_with fail
     refine(X4 _ _).mono ?_;rintro e w' ⟨rfl,rfl⟩;rw[HK.out];go_wp2_with fail
     refine(ON _ _ _).mono ?_;rintro e w' ⟨rfl,rfl⟩;rw[HF.out];go_wp2_with fail
     refine(ze _).mono ?_;rintro e w1 ⟨A1,c1,rfl,z1,zc⟩;rw[Qm,QM] at z1 ⊢;have hK:=QT (z2.alloc _) zc;have zg:=(z3.alloc z3.size _).trans (zc.mono (by have:=z3.size;simp;omega));have zk:=Qh.of_own z1;clear z1 zc z2;go_wp2_with (at_builtin;refine QE _ rfl (.tmp 23) (.tmp 28) _ rfl w.heap.size 5 i0 _ 1 underlying22 hi zl zi zj rfl _ m (bv (ZC (ls.take k))) rfl hK _ A1 x c1 (bv (leb x n')) rfl (by rw[Qm,QM]) zk (Yz _) (by simp only[maxLen];omega) (by omega) zg.size ?_;intro A2 c2 w2 z5 hg2 zh _)
     go_roundw
     case rel=>exact⟨k+1,m+x,by omega,by go_num,HE.out,by rw[HB.out,D7,QM,<-z9.out],by rw[HB.out,Ze];exact z5,zg.trans zh⟩
     case measure=>simp[intOf];omega
    ·have hft':XD n wd=false:=by simpa using hft
     have h1:Zu [(wd,n)]=2:=by simp[Zu,hkn,hft']
     rw[h1,if_neg (by decide)] at z0;have hP:YH ls=[]:=by unfold YH;rw[z0.out,if_neg (by decide)]
     rw[z0.out,hP];have HK:=DY hkn;have HF:=DY hft';clear hkn hft hft' h1 z0 z8 hP;go_wp2_with fail
     refine(X4 _ _).mono ?_;rintro e w' ⟨rfl,rfl⟩;rw[HK.out];go_wp2_with fail
     refine(ON _ _ _).mono ?_;rintro e w' ⟨rfl,rfl⟩;rw[HF.out];go_wp2;go_ret2
     exact⟨none,0,rfl,Nb _ _ _ _,z3.alloc z3.size _⟩
   ·have hkn':Xa wd=false:=by simpa using hkn
    have h1:Zu [(wd,n)]=1:=by simp[Zu,hkn']
    rw[h1,if_neg (by decide)] at z0;have hP:YH ls=[]:=by unfold YH;rw[z0.out,if_neg (by decide)]
    rw[z0.out,hP];have HK:=Lib.hid hkn';clear hkn hkn' h1 z0 z8 hP;go_wp2_with fail
    refine(X4 _ _).mono ?_;rintro e w' ⟨rfl,rfl⟩;rw[HK.out];go_wp2;go_ret2
    exact⟨none,0,rfl,Nb _ _ _ _,z3.alloc z3.size _⟩
  ·obtain rfl:k=ls.length:=by omega
   rw[Nw] at he z4 z2;have hP:YH ls=ZC ls:=by unfold YH;rw[if_pos he]
   have z9:=DY z4;have HP:=DY hP;have zf:=DY he;clear z4 he hP;obtain⟨A1,c1,rfl⟩:=QN z2;go_wp2;go_ret2
   exact⟨A1,c1,by rw[HP.out,zf.out,Qm,<-z9.out];rfl,by rw[HP.out,Qm,<-z9.out];exact z2,z3⟩
theorem G2(b:Nat)(w:World):Calls prog 219 #[.int .u8 b] w fun e w'=>e= .returned (.bool ((b:Int) !=0))/\w=w':=by
 go_enter func219,ntmps219
 go_wp2;go_ret;exact⟨rfl,rfl⟩
theorem all_take(l:List UInt8)(k:Nat)(b:UInt8)(hb:l[k]?=some b)(hn:b≠0):Yh l=false:=by
 unfold Yh;rw[LM];exact⟨b,List.mem_of_getElem? hb,by simpa using hn⟩
theorem all_zero(l:List UInt8)(h:∀j,j<l.length->l[j]?=some 0):Yh l=true:=by
 unfold Yh;rw[NX];intro b hb;obtain⟨j,hj,rfl⟩:=LP hb;have:=h j hj;rw[D1 hj] at this
 injection this with this
 simp[this]
theorem u8_ne(b:UInt8):((b.toNat:Int) !=0)=(b !=0):=by
 by_cases h:b=0
 ·subst h;rfl
 ·have:b.toNat≠0:=fun e=>h (UInt8.toNat_inj.1 (by simpa using e))
  have h1:((b.toNat:Int) !=0)=true:=by simp;omega
  rw[h1];simp[h]
theorem idx_any(A:Option Addr)(c:Nat)(l:List UInt8)(w:World)(B:Nat)(hm:l.length<=reachBytes)(h:Qh w B A (bv l)):
  Calls prog 250 #[.slice A l.length c, .func (.func 219) #[] #[]] w fun e w'=>∃r:Int,e= .returned (.int .i64 r)/\decide (0<=r)=!Yh l/\w=w':=by
 simp only[reachBytes] at hm;go_enter func250,ntmps250
 go_wp2_with fail
 go_loop [8] (fun i=>∃k:Nat,k<=l.length/\i= .int .i64 k/\∀j,j<k->l[j]?=some 0) (fun i=>l.length-(intOf i).toNat)
 case atStart=>exact⟨0,by omega,rfl,by intro j hj;omega⟩
 case round=>
  obtain⟨k,hk,rfl,hz⟩:=hrel;have HZ:=DY hz;clear hz;by_cases hlt:k<l.length
  ·obtain⟨ad,b,rfl,_,hb,hc⟩:=DG h hlt;have HB:=DY hb;clear hb;by_cases hb0:b=0
   ·subst hb0;have e0:(((0:UInt8).toNat:Int) !=0)=false:=rfl;go_wp2_with fail
    refine(G2 _ _).mono ?_;rintro e w1 ⟨rfl,rfl⟩;go_wp2;go_round
    case rel=>exact⟨k+1,by omega,by go_num,fun j hj=>by
     rcases NC j k with h1|h1
     ·exact HZ j h1
     ·obtain rfl:j=k:=by omega
      exact HB.out⟩
    case measure=>simp[intOf];omega
   ·have e0:((b.toNat:Int) !=0)=true:=by rw[u8_ne];simpa using hb0
    have HA:=Lib.hid (all_take l k b HB hb0);generalize b.toNat=bn at*;go_wp2_with fail
    refine(G2 _ _).mono ?_;rintro e w1 ⟨rfl,rfl⟩;go_wp2;go_ret;exact⟨k,rfl,by rw[HA.out];simp,rfl⟩
  ·obtain rfl:k=l.length:=by omega
   have HA:=DY (all_zero l HZ);go_wp2;go_ret;exact⟨-1,rfl,by rw[HA.out];rfl,rfl⟩
theorem Rr(A:Option Addr)(c:Nat)(l:List UInt8)(w:World)(B:Nat)(hm:l.length<=reachBytes)(h:Qh w B A (bv l)):
  Calls prog 162 #[.slice A l.length c] w fun e w'=>e= .returned (.bool (Yh l))/\w=w':=by
 have z0:Calls prog 218 #[.slice A l.length c, .func (.func 219) #[] #[]] w fun e w'=>e= .returned (.bool (!Yh l))/\w=w':=by
  go_enter func218,ntmps218
  go_wp2_with fail
  refine(idx_any A c l w B hm h).mono ?_;rintro e w1 ⟨r,rfl,hr,rfl⟩;have HR:=DY hr;clear hr;go_wp2;go_ret;exact⟨RR HR,rfl⟩
 go_enter func162,ntmps162
 go_wp2_with fail
 refine z0.mono ?_;rintro e w1 ⟨rfl,rfl⟩;go_wp2;go_ret;exact⟨by simp,rfl⟩
section
theorem Qs{B:Nat}{w w':World}(h:Below B w w')(k:Nat):Below B w (w'.drewN k):=⟨h.os,h.tape,h.output,h.size,h.block⟩
attribute [local go_sem ↓] Go.wp_at_zero Go.wp_at_succ
theorem Kl(b:List UInt8)(x:List Int):∀(a:Int) (y:List Int),X7 b a (x++y)=if X7 b a x=0 then X7 b (a+x.sum) y else X7 b a x:=by
 induction x with
 |nil=>intro a y;simp[X7]
 |cons w x ih=>
  intro a y;simp only[NH,X7,ih,Lu]
  split
  ·rw[Int.add_assoc]
  ·simp[*]
theorem unpB_append(b:List UInt8)(x:List Int):∀(a:Int) (y:List Int),X8 b a (x++y)=X8 b a x++X8 b (a+x.sum) y:=by
 induction x with
 |nil=>intro a y;simp[X8]
 |cons w x ih=>
  intro a y;simp only[NH,X8,ih,Lu];rw[Int.add_assoc]
theorem Om(b:List UInt8)(x:List Int):∀a,(X8 b a x).length=x.length:=by
 induction x with
 |nil=>intro a;rfl
 |cons w x ih=>intro a;simp[X8,ih]
theorem getV_ok{l:List UInt8}{a x:Int}(h:(ZZ l a x).2=0):0<=a/\a+x<=l.length/\1<=x:=by
 unfold ZZ at h
 split at h
 ·rename_i ht
  obtain⟨hk,h0,h1⟩:=Vs ht;have:=(Zy x).1 hk;exact⟨h0,h1,by omega⟩
 ·rename_i ht
  exact absurd h ht
theorem Ry(A:Option Addr)(c:Nat)(l:List UInt8)(A2:Option Addr)(c2:Nat)(ws:List Int)(w:World)(hm:l.length<=reachBytes)(hm2:ws.length*8<=reachBytes)(h:Qh w w.heap.size A (bv l))(h2:Qh w w.heap.size A2 (iv ws)):
  Calls prog 192 #[.slice A l.length c, .slice A2 ws.length c2] w (Xl 3 (iv (Rz l 0 ws)) (X7 l 0 ws) w):=by
 have mm:=hm;simp only[reachBytes] at mm hm2;obtain⟨i0,hi,zc,z9,za⟩:=info_parts Tryz.infoInt;go_enter func192,ntmps192
 go_wp2_with fail
 go_loopw [6,7,14] (fun v a i wr=>∃(k:Nat) (z0:Int),k<=ws.length/\i= .int .i64 k/\a= .int .i64 z0/\z0=(ws.take k).sum/\0<=z0/\z0<=l.length/\X7 l 0 (ws.take k)=0/\wr.ownsRow w.heap.size 3 1 v k (iv (X8 l 0 (ws.take k)))/\Below w.heap.size w wr) (fun _ _ i _=>ws.length-(intOf i).toNat)
 case atStart=>exact⟨0,0,by omega,rfl,rfl,by simp,by omega,by omega,by simp[X7],Nb _ _ _ _,D6 _ _⟩
 case round=>
  obtain⟨k,z0,hk,rfl,rfl,z5,ha0,ha1,he,z2,z3⟩:=hrel;by_cases hlt:k<ws.length
  ·obtain⟨ad,rfl,hadb,hc⟩:=(h2.below z3).num hlt;have z7:=Xn ws k hlt;have hE:X7 l 0 (ws.take (k+1))=X7 l z0 [ws[k]]:=by rw[z7,Kl,if_pos he,z5,Int.zero_add]
   have z6:X7 l 0 ws=if X7 l z0 [ws[k]]=0 then X7 l (0+(ws.take (k+1)).sum) (ws.drop (k+1)) else X7 l z0 [ws[k]]:=by
    conv=>lhs;rw[<-N0 (k+1) ws]
    rw[Kl,hE]
   have hB:X8 l 0 (ws.take (k+1))=X8 l 0 (ws.take k)++X8 l z0 [ws[k]]:=by rw[z7,unpB_append,z5,Int.zero_add]
   have hS:(ws.take (k+1)).sum=z0+ws[k]:=by rw[z7,LJ,<-z5];simp
   have HE:=DY hE;have z1:=DY z6;have HB:=DY hB;have HS:=DY hS;clear z7 hE z6 hB hS z5 he;generalize ws[k]=wd at*;have hg:=Uz A c l z0 wd wr _ hm (h.below z3);by_cases hok:(ZZ l z0 wd).2=0
   ·obtain⟨_,hw1,hw2⟩:=getV_ok hok;have h1:X7 l z0 [wd]=0:=by simp[X7,hok]
    have h3:X8 l z0 [wd]=[(ZZ l z0 wd).1]:=by simp[X8]
    rw[h1] at HE;rw[h3] at HB;rw[hok] at hg;clear hok h1 h3 z1;generalize (ZZ l z0 wd).1=g at*;have zb:=Qh.new wr (iv [g]) 3 (0,0);go_wp2_with fail
    refine hg.mono ?_;rintro e w1 ⟨rfl,rfl⟩;clear hg;go_wp2_with (at_builtin;refine QE _ rfl (.tmp 28) (.tmp 30) _ rfl w.heap.size 3 i0 _ 8 underlying68 hi zc z9 za rfl _ k (iv (X8 l 0 (ws.take k))) rfl (z2.alloc _) _ _ 1 1 (iv [g]) rfl rfl zb (Jo _) (by simp only[maxLen];omega) (by omega) (by have:=z3.size;simp;omega) ?_;intro A' c' w2 z4 hg2 z8 _)
    go_roundw
    case rel=>exact⟨k+1,z0+wd,by omega,by go_num,by go_num,HS.out.symm,by omega,by omega,HE.out,by rw[HB.out,Xb];exact z4,(z3.trans ((Qd wr _).mono z3.size)).trans z8⟩
    case measure=>simp[intOf];omega
   ·have h1:X7 l z0 [wd]=(ZZ l z0 wd).2:=by simp[X7,hok]
    rw[h1,if_neg hok] at z1;have hP:Rz l 0 ws=[]:=by unfold Rz;rw[z1.out,if_neg hok]
    rw[z1.out,hP];have d0:((ZZ l z0 wd).2 !=0)=true:=by simpa using hok
    clear h1 z1 hP HE HB hok;generalize (ZZ l z0 wd).1=g at*;generalize (ZZ l z0 wd).2=ge at*;go_wp2_with fail
    refine hg.mono ?_;rintro e w1 ⟨rfl,rfl⟩;clear hg;go_wp2;go_ret2
    exact⟨none,0,rfl,Nb _ _ _ _,z3⟩
  ·obtain rfl:k=ws.length:=by omega
   rw[Nw] at he z2;have hP:Rz l 0 ws=X8 l 0 ws:=by unfold Rz;rw[if_pos he]
   have HP:=DY hP;have zd:=DY he;clear he hP z5;obtain⟨A1,c1,rfl⟩:=QN z2;go_wp2;go_ret2
   exact⟨A1,c1,by rw[HP.out,zd.out,QK,Om];rfl,by rw[HP.out,QK,Om];exact z2,z3⟩
end
def QV(t:Int)(leaf:Bool):Int:=if t<1∨5<t then 0 else if leaf=false then 4 else if t=2 then 8 else if t=3 then 24 else if t=4 then 16 else 4
def ZE(t:Int)(leaf:Bool):Nat:=if t<1∨5<t then 0 else if leaf=false then 18 else if t=2 then 12 else if t=3 then 6 else if t=4 then 9 else 18
theorem maxV_leaf(t:Int):ZE t true<=18:=by
 unfold ZE
 split
 ·omega
 ·rw[if_neg (by simp)]
  split
  ·omega
  ·split
   ·omega
   ·split<;>omega
theorem maxV_both(t:Int)(h:ZE t true≠0):ZE t false=18/\6<=ZE t true:=by
 unfold ZE at*
 split at h
 ·exact absurd rfl h
 ·rename_i hn
  rw[if_neg hn,if_pos rfl];refine⟨rfl,?_⟩;rw[if_neg hn,if_neg (by simp)]
  split
  ·omega
  ·split
   ·omega
   ·split<;>omega
def Xf(n m:Nat):Nat:=(n-1)/ m+1
theorem overV_max(n m:Nat)(hm:0<m):max 1 ((n+m-1)/ m)=Xf n m:=by
 unfold Xf;rcases N6 n with h|h
 ·subst h;have:(0+m-1)/ m=0:=Nat.div_eq_of_lt (by omega);rw[this];simp
 ·have:n+m-1=(n-1)+m:=by omega
  rw[this,Nat.add_div_right _ hm];generalize (n-1)/ m=q;omega
theorem J1{k m:Nat}(hm:2<=m)(hk:1<k):Xf k m<k:=by
 unfold Xf;have:(k-1)/ m<=(k-1)/ 2:=Nat.div_le_div_left hm (by omega);omega
theorem R1(k m:Nat):Xf k m<=k+1:=by
 unfold Xf;have:=Nat.div_le_self (k-1) m;omega
def XH(n m:Nat):List Nat:=List.replicate ((n-1)/ m) m++[n-(n-1)/ m*m]
theorem sizesV_len(n m:Nat):(XH n m).length=Xf n m:=by simp[XH,Xf]
theorem Ov(n m:Nat)(hm:0<m):(n-1)/ m*m<=n/\n<=(n-1)/ m*m+m/\(0<n->(n-1)/ m*m<n):=by
 have h1:=Nat.div_mul_le_self (n-1) m;have h2:=Nat.lt_div_mul_add (a:=n-1) hm;refine⟨by omega,by omega,fun h=>by omega⟩
theorem sizesV_get(n m:Nat)(hm:0<m)(i:Nat)(hi:i<Xf n m):(XH n m)[i]?=some (min m (n-i*m)):=by
 obtain⟨h1,h2,h3⟩:=Ov n m hm;unfold Xf at hi;unfold XH;rcases NC i ((n-1)/ m) with h|h
 ·rw[LH (by simpa using h),LS,if_pos h];have:(i+1)*m<=(n-1)/ m*m:=Nat.mul_le_mul_right _ h;rw[Nat.add_mul,Nat.one_mul] at this;rw[LV (by omega)]
 ·obtain rfl:i=(n-1)/ m:=by omega
  rw[LE (by simp),Nn,Nat.sub_self];simp only[NP,Li];rw[Nat.min_eq_right (by omega)]
theorem sizesV_big(n m:Nat)(L:Nat)(hn:n<=L)(hL:0<L)(hm:L<=m):XH n m=XH n L:=by
 have h1:(n-1)/ m=0:=Nat.div_eq_of_lt (by omega);have h2:(n-1)/ L=0:=Nat.div_eq_of_lt (by omega);unfold XH;rw[h1,h2];simp
def lvF(m:Nat):Nat->Nat->List Nat
 |0,k=>[k]
 |f+1,k=>if 1<k then k::lvF m f (Xf k m) else [k]
theorem lvF_any(m:Nat)(hm:2<=m):∀(f g k:Nat),k<=f->k<=g->lvF m f k=lvF m g k:=by
 intro f;induction f with
 |zero=>
  intro g k h1 h2;obtain rfl:k=0:=by omega
  cases g with
  |zero=>rfl
  |succ g=>simp[lvF]
 |succ f ih=>
  intro g k h1 h2;cases g with
  |zero=>
   obtain rfl:k=0:=by omega
   simp[lvF]
  |succ g=>
   simp only[lvF]
   split
   ·rename_i hk
    have:=J1 hm hk;rw[ih g (Xf k m) (by omega) (by omega)]
   ·rfl
def lvl(m k:Nat):List Nat:=lvF m k k
theorem Gc(m k:Nat)(hm:2<=m)(hk:1<k):lvl m k=k::lvl m (Xf k m):=by
 unfold lvl;obtain⟨j,rfl⟩:∃j,k=j+1:=⟨k-1,by omega⟩
 have:=J1 hm hk;simp only[lvF,if_pos hk];rw[lvF_any m hm j (Xf (j+1) m) _ (by omega) (Na _)]
theorem Do(m k:Nat)(hk:¬1<k):lvl m k=[k]:=by
 unfold lvl;cases k with
 |zero=>rfl
 |succ j=>simp only[lvF,if_neg hk]
theorem lvl_len(m:Nat)(hm:2<=m):∀k,(lvl m k).length<=k+1:=by
 intro k;induction k using Nat.strongRecOn with
 |ind k ih=>
  by_cases hk:1<k
  ·rw[Gc m k hm hk,No];have h1:=J1 hm hk;have:=ih _ h1;omega
  ·rw[Do m k hk];simp
theorem lvl_sum(m:Nat)(hm:2<=m):∀k,(lvl m k).sum<=k*k+1:=by
 intro k;induction k using Nat.strongRecOn with
 |ind k ih=>
  by_cases hk:1<k
  ·rw[Gc m k hm hk,Lu];have h1:=J1 hm hk;have h2:=ih _ h1;have h3:Xf k m*Xf k m<=(k-1)*(k-1):=Nat.mul_le_mul (by omega) (by omega);obtain⟨j,rfl⟩:∃j,k=j+1:=⟨k-1,by omega⟩
   rw[Nat.add_sub_cancel] at h3;have h4:(j+1)*(j+1)=j*j+2*j+1:=by rw[Nat.add_mul,Nat.mul_add];omega
   omega
  ·rw[Do m k hk];simp;omega
def XR(t n:Int):List Nat:=if ZE t true=0∨n<0∨32768<n then [] else lvl 18 (Xf n.toNat (ZE t true))
def Yu(t n:Int):Nat:=(XR t n).sum
theorem Jv(A:Option Addr)(c:Nat)(l:List Int)(w:World)(B:Nat)(hB:B<=w.heap.size)(hm:l.length*8<=reachBytes)(h:Qh w B A (iv l)):
  Calls prog 133 #[.slice A l.length c] w (XQ 3 (iv l) w):=by
 simp only[reachBytes] at hm;obtain⟨i0,hi,z5,z2,z3⟩:=info_parts Tryz.infoI64;have z1:=LL (e:=3) (size:=1) (base:=w.heap.size) w #[] 0 (Na _) (by simp) (by rfl);cases A with
 |none=>
  have h0:l=[]:=by
   rcases l with _|⟨b,l⟩
   ·rfl
   ·obtain⟨_,h,_⟩:=h (by simp[iv]);cases h
  subst h0;have he:=fun w=>Lib.run_eql_slice_nil (P:=prog) w 68
  go_enter func133,ntmps133
  go_wp2_with fail
  go_ret;exact⟨none,0,rfl,Nb _ _ _ _,D6 _ _⟩
 |some ad=>
  have he:=fun w=>Lib.run_eql_slice_nil (P:=prog) w 68
  go_enter func133,ntmps133
  go_wp2_with (at_builtin;refine QE _ rfl (.tmp 5) (.tmp 6) _ rfl w.heap.size 3 i0 _ 8 underlying68 hi z5 z2 z3 rfl _ 0 [] rfl z1 _ (some ad) l.length c (iv l) rfl (QK l).symm (h.alloc hB _) (Jo _) (by simp only[maxLen];omega) (by omega) (by simp) ?_;intro A' c' w2 z0 hg2 z4 _)
  simp only[ND,Np] at z0;go_ret;exact⟨A',c',by rw[QK];simp,by rw[QK];exact z0,(Qd w _).trans z4⟩
def Cnt(w:World)(B g:Nat)(A:Option Addr)(c:Nat)(l:List Int):Prop:=
 Boxed w g 262 (.slice A l.length c)/\w.ownsRow B 3 1 (.slice A l.length c) l.length (iv l)/\l.length<=65536/\B<=g
section
variable {w w':World} {B g:Nat} {A:Option Addr} {c:Nat} {l:List Int}
theorem Cnt.below(h:Cnt w B g A c l)(hb:Below w.heap.size w w'):Cnt w' B g A c l:=⟨Qe h.1 hb,QT h.2.1 hb,h.2.2⟩
theorem Cnt.cell(h:Cnt w B g A c l):w.cell? ⟨g,0,none⟩=some (.slice A l.length c):=h.1.cell
theorem Cnt.reads(h:Cnt w B g A c l):Qh w w.heap.size A (iv l):=Qh.of_own h.2.1
theorem Cnt.form(h:Cnt w B g A c l)(hL:0<l.length):∃h0,A=some ⟨h0,0,none⟩/\l.length<=c:=by
 rcases h.2.1.2 with⟨hv,hz⟩|⟨g',cap,cur,hv,_,_,hnc,_⟩
 ·omega
 ·injection hv with e1 e2 e3
  exact⟨g',e1,by omega⟩
end
theorem made_nums(n:Nat):(madeCells (Value.int .i64 0).cells (n*1)).toList=iv (List.replicate n 0):=by
 rw[NE];apply Lo
 ·simp[madeCells,iv]
 ·intro i h1 h2;simp[madeCells,iv,Value.cells,LT]
theorem cnew_ok(n:Nat)(hn:n<=65536)(w:World):
  Calls prog 75 #[.int .i64 n] w fun e w'=>∃g A c,e= .returned (.tuple #[.pointer (some ⟨g,0,none⟩), .int .i64 0])/\Cnt w' w.heap.size g A c (List.replicate n 0)/\Below w.heap.size w w':=by
 obtain⟨i0,hi,z3,z1,z2⟩:=info_parts Tryz.infoI64;have d1:decide ((n:Int)<0)=false:=decide_eq_false (by omega);have d2:decide ((65536:Int)<n)=false:=decide_eq_false (by omega);go_enter func75,ntmps75
 go_wp2_with (at_make;refine wpList_make_full _ rfl (.tmp 10) (.tmp 10) _ rfl w.heap.size 3 i0 _ 1 underlying68 hi z3 z1 .i64 .i64 n n n rfl rfl rfl rfl (by rw[z2];omega) (by simp only[maxLen];omega) (Na _) ?_;intro w1 z0 hg)
 rw[made_nums] at z0;have hB:Below w.heap.size w w1:=(D6 _ _).grown hg (Na _) (fun k hk=>by cases hk);go_ret2
 refine⟨w1.heap.size,some ⟨w.heap.size,0,none⟩,n,rfl,⟨?_,?_,?_,hB.size⟩,hB.alloc hB.size _⟩
 ·rw[Nn];exact Boxed.new _ _ _
 ·rw[Nn];exact z0.alloc _
 ·rw[Nn];omega
theorem own_any{w:World}{B g:Nat}{A:Option Addr}{c:Nat}{l:List Int}(h:Cnt w B g A c l):
  Calls prog 134 #[.pointer (some ⟨g,0,none⟩)] w fun e w'=>e= .returned (.slice A l.length c)/\w=w':=by
 have hc:=h.cell;clear h;go_enter func134,ntmps134
 go_wp2;go_ret;exact⟨rfl,rfl⟩
theorem list_any{w:World}{B g:Nat}{A:Option Addr}{c:Nat}{l:List Int}(h:Cnt w B g A c l):
  Calls prog 78 #[.pointer (some ⟨g,0,none⟩)] w (XQ 3 (iv l) w):=by
 have ho:=own_any h;have hr:=Jv A c l w _ (Na _) (by have:=h.2.2.1;simp only[reachBytes];omega) h.reads;clear h;go_enter func78,ntmps78
 go_wp2_with fail
 refine ho.mono ?_;rintro e w2 ⟨rfl,rfl⟩;clear ho;go_wp2_with fail
 refine hr.mono ?_;rintro e w2 ⟨A2,c2,rfl,z0,hb⟩;clear hr;go_wp2;go_ret;exact⟨A2,c2,rfl,z0,hb⟩
def OT(n:Nat)(k:Int):Int:=if k<0∨(n:Int)<=k then 3 else 0
def Jd(l:List Int)(k:Int):List Int:=if OT l.length k=0 then l.set k.toNat (l.getD k.toNat 0+1) else l
def DK(l:List Int)(k:Int):Int:=if OT l.length k=0 then l.getD k.toNat 0+1 else 0
theorem addL_len(l:List Int)(k:Int):(Jd l k).length=l.length:=by unfold Jd;split<;>simp
theorem DJ{w:World}{B g:Nat}{A:Option Addr}{c:Nat}{l:List Int}(h:Cnt w B g A c l)(k:Int)(hb:∀x∈l,0<=x/\x<9223372036854775807):
  Calls prog 76 #[.pointer (some ⟨g,0,none⟩), .int .i64 k] w fun e w'=>e= .returned (.tuple #[.int .i64 (DK l k), .int .i64 (OT l.length k)])/\Cnt w' B g A c (Jd l k)/\w.grownBy w' (Value.slice A l.length c).ownBlock:=by
 have hc:=h.cell;by_cases h1:k<0∨(l.length:Int)<=k
 ·have hE:OT l.length k=3:=by unfold OT;rw[if_pos h1]
  have hL:Jd l k=l:=by unfold Jd;rw[hE,if_neg (by decide)]
  have hN:DK l k=0:=by unfold DK;rw[hE,if_neg (by decide)]
  rw[hE,hL,hN];have HI:=DY h;clear hE hL hN h hb;by_cases h0:k<0
  ·have d1:decide (k<0)=true:=decide_eq_true h0;clear h1;go_enter func76,ntmps76
   go_wp2;go_ret2
   exact⟨rfl,HI.out,World.grownBy.refl w _⟩
  ·have d1:decide (k<0)=false:=decide_eq_false h0;have d2:decide ((l.length:Int)<=k)=true:=decide_eq_true (by omega);clear h1;go_enter func76,ntmps76
   go_wp2;go_ret2
   exact⟨rfl,HI.out,World.grownBy.refl w _⟩
 ·obtain⟨m,rfl⟩:=NB (show 0<=k by omega);have hm:m<l.length:=by omega
  have hE:OT l.length (m:Int)=0:=by unfold OT;rw[if_neg h1]
  have hg:l.getD m 0=l[m]:=by rw[D9,D1 hm];rfl
  have hL:Jd l (m:Int)=l.set m (l[m]+1):=by unfold Jd;rw[if_pos hE,N3,hg]
  have hN:DK l (m:Int)=l[m]+1:=by unfold DK;rw[if_pos hE,N3,hg]
  rw[hE,hL,hN];obtain⟨h0,rfl,hcap⟩:=h.form (by omega);have hcell:w.cell? ⟨h0,m,none⟩=some (.int .i64 l[m]):=by
   rw[h.2.1.cellAt m (by omega)];exact Ub l m hm
  have hfz:=h.2.1.frozenAt m;have z1:=h.1.not_row (by decide) h.2.1;obtain⟨ho,z2⟩:=h.2.1.stored m (.int .i64 (l[m]+1));have hbk:h0≠g:=fun e=>z1 (by rw[e];rfl)
  obtain⟨b0,b1⟩:=hb l[m] (Nm hm);have z0:Cnt (w.setCell ⟨h0,m,none⟩ (.int .i64 (l[m]+1))) B g (some ⟨h0,0,none⟩) c (l.set m (l[m]+1)):=by
   refine⟨by rw[LK];exact h.1.kept z2 z1,?_,by rw[LK];exact h.2.2.1,h.2.2.2⟩
   rw[LK];have:(iv l).set m (.int .i64 (l[m]+1))=iv (l.set m (l[m]+1)):=by simp[iv,List.map_set]
   rw[<-this];exact ho
  have d1:decide ((m:Int)<0)=false:=decide_eq_false (by omega);have d2:decide (l.length<=m)=false:=decide_eq_false (by omega);have i0:(0:Int)<=(m:Int):=by omega
  have i1:(m:Int)<(l.length:Int):=by omega
  have HI:=DY z0;have DU:(w.setCell ⟨h0,m,none⟩ (.int .i64 (l[m]+1))).cell? ⟨g,0,none⟩=some (.slice (some ⟨h0,0,none⟩) l.length c):=by
   have:=z0.cell
   rwa[LK] at this
  have hl:=h.2.2.1;clear hE hg hL hN h hb h1 ho z0;generalize l[m]=x at*;go_enter func76,ntmps76
  go_wp2;go_ret2
  exact⟨rfl,HI.out,z2⟩
theorem Tryz.infoByte:(prog.info? 5).map (fun i=>(i.zero,i.size,i.bytes))=some (some (.int .u8 0),1,1):=by kernel_rfl
theorem Oe(A:Option Addr)(c:Nat)(l:List UInt8)(w:World)(B:Nat)(hB:B<=w.heap.size)(hm:l.length<=reachBytes)(h:Qh w B A (bv l)):
  Calls prog 25 #[.slice A l.length c] w (XQ 5 (bv l) w):=by
 simp only[reachBytes] at hm;obtain⟨i0,hi,z5,z2,z3⟩:=info_parts Tryz.infoByte;have z1:=LL (e:=5) (size:=1) (base:=w.heap.size) w #[] 0 (Nat.le_refl _) (by simp) (by rfl);cases A with
 |none=>
  have h0:l=[]:=by
   rcases l with _|⟨b,l⟩
   ·rfl
   ·obtain⟨_,h,_⟩:=h (by simp[bv]);cases h
  subst h0;have he:=fun w=>Lib.run_eql_slice_nil (P:=prog) w 22
  go_enter func25,ntmps25
  go_wp2_with fail
  go_ret;exact⟨none,0,rfl,Nb _ _ _ _,D6 _ _⟩
 |some ad=>
  have he:=fun w=>Lib.run_eql_slice_nil (P:=prog) w 22
  go_enter func25,ntmps25
  go_wp2_with (at_builtin;refine QE _ rfl (.tmp 5) (.tmp 6) _ rfl w.heap.size 5 i0 _ 1 underlying22 hi z5 z2 z3 rfl _ 0 [] rfl z1 _ (some ad) l.length c (bv l) rfl (Qm l).symm (h.alloc hB _) (Yz _) (by simp only[maxLen];omega) (by omega) (by simp) ?_;intro A' c' w2 z0 hg2 z4 _)
  simp only[ND,Np] at z0;go_ret;exact⟨A',c',by rw[Qm];simp,by rw[Qm];exact z0,(Qd w _).trans z4⟩
theorem salt_any(k:Int)(w:World):Calls prog 249 #[.int .i64 k] w fun e w'=>e= .returned (.int .i64 (Ow k:Nat))/\w=w':=by
 by_cases h1:k=1
 ·subst h1;go_enter func249,ntmps249
  go_wp2;go_ret;exact⟨rfl,rfl⟩
 ·by_cases h2:k=2
  ·subst h2;go_enter func249,ntmps249
   go_wp2;go_ret;exact⟨rfl,rfl⟩
  ·by_cases h3:k=3
   ·subst h3;go_enter func249,ntmps249
    go_wp2;go_ret;exact⟨rfl,rfl⟩
   ·by_cases h4:k=4
    ·subst h4;go_enter func249,ntmps249
     go_wp2;go_ret;exact⟨rfl,rfl⟩
    ·have hv:Ow k=0:=by unfold Ow;rw[if_neg h1,if_neg h2,if_neg h3,if_neg h4]
     rw[hv];clear hv;have d1:(k==1)=false:=by simpa using h1
     have d2:(k==2)=false:=by simpa using h2
     have d3:(k==3)=false:=by simpa using h3
     have d4:(k==4)=false:=by simpa using h4
     clear h1 h2 h3 h4;go_enter func249,ntmps249
     go_wp2;go_ret;exact⟨rfl,rfl⟩
theorem knownK_eq(k n:Int):XV k n=(decide (1<=k)&&(decide (k<=4)&&(decide (0<=n)&&decide (n<14400)))):=by
 unfold XV;simp only[Bool.decide_and]
theorem RK(k n:Int)(w:World):Calls prog 208 #[.int .i64 k, .int .i64 n] w fun e w'=>e= .returned (.bool (XV k n))/\w=w':=by
 rw[knownK_eq];cases d1:decide (1<=k)<;>cases d2:decide (k<=4)<;>cases d3:decide (0<=n)<;>cases d4:decide (n<14400)<;>
 ·go_enter func208,ntmps208
  go_wp2;go_ret;exact⟨rfl,rfl⟩
theorem told_any(A:Option Addr)(c:Nat)(l:List UInt8)(a x:Int)(w:World)(B:Nat)(hm:l.length<=reachBytes)(h:Qh w B A (bv l)):
  Calls prog 211 #[.slice A l.length c, .int .i64 a, .int .i64 x] w fun e w'=>e= .returned (.int .i64 (ZZ l a x).1)/\w=w':=by
 have k:=Uz A c l a x w B hm h;generalize (ZZ l a x).1=g at*;generalize (ZZ l a x).2=g2 at*;go_enter func211,ntmps211
 go_wp2_with fail
 refine k.mono ?_;rintro e w1 ⟨rfl,rfl⟩;go_wp2;go_ret;exact⟨rfl,rfl⟩
theorem i64_xorn(a b:Nat)(ha:a<4294967296)(hb:b<4294967296):bits .xor .i64 (a:Int) (b:Int)=((a ^^^ b:Nat):Int):=i64_xor_n a b (by omega) (by omega)
theorem ssum_any(A:Option Addr)(c:Nat)(l:List UInt8)(k:Int)(w:World)(hl:l.length=256)(hq:256<=c)(h:Qh w w.heap.size A (bv l)):
  Calls prog 212 #[.slice A 256 c, .int .i64 k] w fun e w'=>e= .returned (.int .i64 (O0 k (l.take 252):Nat))/\Below w.heap.size w w':=by
 have hq':(252:Int)<=(c:Int):=by omega
 have h2:=h.take 252;rw[Xi] at h2;have z1:(l.take 252).length=252:=by rw[Ni];omega
 have hs:=sum_any (some ⟨w.heap.size,0,none⟩) 1 1 [l.take 252] (w.alloc (.cells #[.slice A 252 c] 22)) rfl (by simp[maxLen]) ((VP.one 22 _ _ z1.symm h2 (by simp only[maxLen];omega)).more (by simp));rw[show [l.take 252].flatten=l.take 252 by simp] at hs
 have hx:=i64_xorn (crcM 0 (l.take 252)) (Ow k) (DD 0 (by omega) _) (RN k);have hc:=DD 0 (by omega) (l.take 252);have hv:=RN k;have HX:=DY (show crcM 0 (l.take 252)^^^ Ow k=O0 k (l.take 252) from rfl);have hlt:=sumW_lt k (l.take 252);have k2:=fun W=>salt_any k W
 rw[HX.out] at hx;generalize O0 k (l.take 252)=S at*;generalize crcM 0 (l.take 252)=x at*;generalize Ow k=y at*;clear HX;go_enter func212,ntmps212
 go_wp2_with fail
 refine hs.mono ?_;rintro e w1 ⟨rfl,z0⟩;have hb1':=Qb (Qd w _) z0;clear z0 hs h2;go_wp2_with fail
 refine(k2 _).mono ?_;rintro e w2 ⟨rfl,rfl⟩;go_wp2;go_ret;exact⟨rfl,hb1'⟩
theorem getV_256(l:List UInt8)(a x:Int)(hl:l.length=256)(ha:0<=a)(hx:x=2∨x=4)(h:a+x<=256):ZZ l a x=(((Xd l a x:Nat):Int),0):=by
 unfold ZZ;have h1:=OI ((l.drop a.toNat).take x.toNat);have h2:((l.drop a.toNat).take x.toNat).length<=4:=by rw[Ni];omega
 have h3:256 ^((l.drop a.toNat).take x.toNat).length<=256 ^ 4:=Ld (by decide) h2;rw[if_pos (XB (by rw[Zy];omega) (by omega) (by omega)),if_pos (by unfold Xd;omega)]
theorem On(A:Option Addr)(c:Nat)(l:List UInt8)(a x:Int)(w:World)(B:Nat)(hl:l.length=256)(ha:0<=a)(hx:x=2∨x=4)(hax:a+x<=256)(h:Qh w B A (bv l)):
  Calls prog 211 #[.slice A 256 c, .int .i64 a, .int .i64 x] w fun e w'=>e= .returned (.int .i64 (Xd l a x:Nat))/\w=w':=by
 have:=told_any A c l a x w B (by rw[hl];decide) h;rw[getV_256 l a x hl ha hx hax,hl] at this;exact this
theorem open1_any(p q:Addr)(k n:Int)(w:World)(hp:w.cell? p=some (.int .i64 k))(hq:w.cell? q=some (.int .i64 n)):
  Calls prog 207 #[.pointer (some p), .pointer (some q)] w fun e w'=>e= .returned (.bool (!XV k n))/\w=w':=by
 have h:=RK k n w;generalize XV k n=b at*;cases b;all_goals
  go_enter func207,ntmps207
  go_wp2_with fail
  refine h.mono ?_;rintro e w1 ⟨rfl,rfl⟩;go_wp2;go_ret;exact⟨rfl,rfl⟩
theorem open2_any(p:Addr)(A:Option Addr)(m c:Nat)(w:World)(hp:w.cell? p=some (.slice A m c)):
  Calls prog 209 #[.pointer (some p)] w fun e w'=>e= .returned (.bool ((m:Int) !=256))/\w=w':=by
 go_enter func209,ntmps209
 go_wp2;go_ret;exact⟨rfl,rfl⟩
theorem sumOK_ne(l:List UInt8)(k:Int):(((Xd l 252 4:Nat):Int) !=((O0 k (l.take 252):Nat):Int))=!Kn l k:=by
 unfold Kn;by_cases h:Xd l 252 4=O0 k (l.take 252)
 ·rw[h,decide_eq_true rfl];simp
 ·rw[decide_eq_false h];simp;omega
theorem open3_any(p q:Addr)(A:Option Addr)(c:Nat)(l:List UInt8)(k:Int)(w:World)(hl:l.length=256)(hc:256<=c)(hp:w.cell? p=some (.slice A 256 c))(hq:w.cell? q=some (.int .i64 k))(h:Qh w w.heap.size A (bv l)):
  Calls prog 210 #[.pointer (some p), .pointer (some q)] w fun e w'=>e= .returned (.bool (!Kn l k))/\Below w.heap.size w w':=by
 have k1:=fun W B (h:Qh W B A (bv l))=>On A c l 252 4 W B hl (by omega) (by omega) (by omega) h
 have k2:=fun W (h:Qh W W.heap.size A (bv l))=>ssum_any A c l k W hl hc h
 have dE:=sumOK_ne l k;generalize Xd l 252 4=x at*;generalize O0 k (l.take 252)=y at*;generalize Kn l k=ok at*;have z3:=block_lt_of_cell hp;have z2:=block_lt_of_cell hq;have z1:=h.drew;go_enter func210,ntmps210
 go_wp2_with fail
 go_region_with(first|(go_at_call 211;refine(k1 _ _ (by first|assumption|exact z1)).mono ?_;rintro e w1 ⟨rfl,rfl⟩)|(go_at_call 212;refine(k2 _ z1).mono ?_;rintro e w2 ⟨rfl,z0⟩;have hp2:=(z0.cell (p:=p) z3).trans hp;have hq2:=(z0.cell (p:=q) z2).trans hq;have hr2:=(z1.ext z0)))
 all_goals
  go_wp2;go_ret;exact⟨rfl,Jg z0⟩
theorem open4_any(p q:Addr)(A:Option Addr)(c:Nat)(l:List UInt8)(n:Int)(w:World)(hl:l.length=256)(hp:w.cell? p=some (.slice A 256 c))(hq:w.cell? q=some (.int .i64 n))(h:Qh w w.heap.size A (bv l)):
  Calls prog 213 #[.pointer (some p), .pointer (some q)] w fun e w'=>e= .returned (.bool ((Xd l 0 4:Int) !=n))/\∃m,w'=w.drewN m:=by
 have k1:=fun m=>(On A c l 0 4 (w.drewN m) _ hl (by omega) (by omega) (by omega) (show Qh (w.drewN m) w.heap.size A (bv l) from h)).mono (fun e w' h=>(show e=_/\w'=w.drewN m from⟨h.1,h.2.symm⟩))
 generalize Xd l 0 4=x at*;go_enter func213,ntmps213
 go_wp2_with fail
 go_quiet ((go_at_call 211;exact Calls.quiet_of_same (k1 _)))
 go_wp2;go_ret;exact⟨rfl,_,rfl⟩
theorem open5_any(p q:Addr)(A:Option Addr)(c:Nat)(l:List UInt8)(k:Int)(w:World)(hl:l.length=256)(hp:w.cell? p=some (.slice A 256 c))(hq:w.cell? q=some (.int .i64 k))(h:Qh w w.heap.size A (bv l)):
  Calls prog 214 #[.pointer (some p), .pointer (some q)] w fun e w'=>e= .returned (.bool ((Xd l 4 2:Int) !=k))/\∃m,w'=w.drewN m:=by
 have k1:=fun m=>(On A c l 4 2 (w.drewN m) _ hl (by omega) (by omega) (by omega) (show Qh (w.drewN m) w.heap.size A (bv l) from h)).mono (fun e w' h=>(show e=_/\w'=w.drewN m from⟨h.1,h.2.symm⟩))
 generalize Xd l 4 2=x at*;go_enter func214,ntmps214
 go_wp2_with fail
 go_quiet ((go_at_call 211;exact Calls.quiet_of_same (k1 _)))
 go_wp2;go_ret;exact⟨rfl,_,rfl⟩
theorem open6_any(p:Addr)(A:Option Addr)(c:Nat)(l:List UInt8)(w:World)(hl:l.length=256)(hp:w.cell? p=some (.slice A 256 c))(h:Qh w w.heap.size A (bv l)):
  Calls prog 215 #[.pointer (some p)] w fun e w'=>e= .returned (.bool ((Xd l 6 2:Int) !=0))/\w=w':=by
 have k1:=On A c l 6 2 w _ hl (by omega) (by omega) (by omega) h;generalize Xd l 6 2=x at*;go_enter func215,ntmps215
 go_wp2_with fail
 refine k1.mono ?_;rintro e w1 ⟨rfl,rfl⟩;go_wp2;go_ret;exact⟨rfl,rfl⟩
theorem Ym(k:Nat):(Builtin.zeroCells (Value.int .u8 0).cells k)=(bv (List.replicate k 0)).toArray:=by
 apply Array.ext
 ·simp[Builtin.zeroCells,bv,Value.cells]
 ·intro i h1 h2;simp[Builtin.zeroCells,bv,Value.cells,LT]
section
variable {P:Program} (w:World)
theorem O5(base:Nat)(t tn ty e:TypeId)(i:TypeInfo)(ht:P.underlying t=some (.slice e))(htn:P.underlying tn=some (.int .i64))(hi:P.info? e=some i)(hz:i.zero=some (.int .u8 0))
  (hsize:i.size=1) (hby:i.bytes=1)
  (v:Value) (n:Nat) (xs:List Value) (hown:w.ownsRow base e 1 v n xs) (k:Nat)
  (h63:n+k<=140737488355328) (hbase:base<=w.heap.size):
  ∃v' w',(Builtin.append_ #[t,tn] ty #[v, .int .i64 k]).run P w= .ok v' w'/\w'.ownsRow base e 1 v' (n+k) (xs++bv (List.replicate k 0))/\w.grownBy w' v.ownBlock:=by
 have hw:IntKind.i64.wrap (k:Int)=k:=by rw[Nv];omega
 have z9:¬((k:Int)<0):=by omega
 have z8:¬(281474976710656<(k:Int)*(i.bytes:Int)):=by rw[hby];omega
 rcases N6 k with rfl|hk
 ·obtain⟨A,c,rfl⟩:=QN hown;have z7:n<=c:=by
   rcases hown.2 with⟨hv,hn⟩|⟨g,z0,z4,hv,_,_,z7,_⟩
   ·omega
   ·injection hv with _ _ h3;omega
  refine⟨.slice A n c,w,?_,by simpa[bv] using hown,NT w _⟩
  have zd:IntKind.i64.wrap 0=0:=by decide
  cases A<;>simp[Builtin.append_,run_underlying ht,run_underlying htn,sizeOf,typeInfo,zeroValue,hi,hz,asInt,asIntOf,zd,z7,storeCells]
 ·rcases hown.2 with⟨rfl,rfl⟩|⟨g,z0,z4,rfl,zc,hg,z7,z2,ze,z1⟩
  ·have hx:xs=[]:=NL (by simpa using hown.1);subst hx;have hr:=Lib.run_append_nil_zeros (P:=P) w t tn ty e i (.int .u8 0) .i64 .i64 ht htn hi hz k hk (by omega) (by omega) (by rw[hby];omega);simp only[Nat.zero_add,Np];have z6:=grownCap_ge w k 0 e;have z2:grownCap w k 0 e<=maxLen:=grownCap_le_maxLen w k 0 e (by simp only[maxLen];omega);refine⟨_,_,hr,⟨by simp[Qm], .inr ⟨w.heap.size,_,_,rfl,hbase,heap_alloc_new w.drew _,z6,z2,?_,?_⟩⟩,⟨rfl,rfl,rfl,by simp,fun j hj _=>(Qd w.drew _).block _ hj⟩⟩
   ·simp only[Array.size_append,Ym,Ny,Qm,Nn];omega
   ·rw[LO,Ym,NE];exact List.take_left' (by simp[Qm])
  ·have z5:xs.length=n:=by simpa using hown.1
   simp only[Nat.mul_one] at ze z1;by_cases hroom:n+k<=z0
   ·have za:=run_storeCells_at P g n e (bv (List.replicate k 0)) 0 z4 w hg (by simp[Qm];omega) (Yz _);simp only[Nat.add_zero,Qm,Nn] at za;have zb:=Ym k;have zf:k≠0:=by omega
    have hr:(Builtin.append_ #[t,tn] ty #[.slice (some ⟨g,0,none⟩) n z0, .int .i64 k]).run P w= .ok (.slice (some ⟨g,0,none⟩) (n+k) z0) (w.setRow g (z4.toList.take n++bv (List.replicate k 0)++z4.toList.drop (n+k)).toArray):=by
     simp[Builtin.append_,run_underlying ht,run_underlying htn,sizeOf,typeInfo,zeroValue,hi,hz,hsize,asInt,asIntOf,hw,z9,z8,zf,hroom,zb,Addr.add_lit,za]
    refine⟨_,_,hr,⟨by simp[Qm,z5], .inr ⟨g,z0,_,rfl,zc,setRow_heap w g z4 _ e _ hg,hroom,z2,?_,?_⟩⟩,⟨rfl,rfl,rfl,by simp,fun j hj hne=>setRow_other w g j _ (fun e=>hne (by simp[Value.ownBlock,e]))⟩⟩
    ·simp only[Ny,D7,Ni,Nq,Ly,Qm,Nn];omega
    ·rw[z1,NE];exact List.take_left' (by rw[D7,Qm,Nn];omega)
   ·have z3:∀j u,xs[j]?=some u->w.cell? ((⟨g,0,none⟩:Addr).add j)=some u:=hown.cells (g:=g) rfl;have hr:=Lib.run_append_grow_zeros (P:=P) w t tn ty e i (.int .u8 0) .i64 .i64 ht htn hi hz (some ⟨g,0,none⟩) n z0 xs (by rw[hsize];exact run_firstCells_some w.drew 1 n ⟨g,0,none⟩ n z0 xs (by omega) (by simpa using z3)) k hk (by omega) (by omega) (by omega) (by rw[hby];omega) (growslice_fits (by omega) (by rw[hby];omega));have z6:=grownCap_ge w (n+k) z0 e;have z2:grownCap w (n+k) z0 e<=maxLen:=grownCap_le_maxLen w (n+k) z0 e (by simp only[maxLen];omega);refine⟨_,_,hr,⟨by simp[Qm,z5], .inr ⟨w.heap.size,_,_,rfl,hbase,heap_alloc_new w.drew _,z6,z2,?_,?_⟩⟩,⟨rfl,rfl,rfl,by simp,fun j hj _=>(Qd w.drew _).block _ hj⟩⟩
    ·simp only[Array.size_append,Ny,Ym,Qm,z5,Nn];omega
    ·rw[LO,LO,Ym,Ym,Nat.mul_one];exact List.take_left' (by simp[Qm,z5])
theorem UH{ops:Array Oper}{rest:List Oper}{o:Oper}{a:Act}{Q:Exit->Act->World->Prop}(hgd:o.guard=none)(s x:Operand)(t tn:TypeId)
  (ho:o.op= .call {callee:= .builtin .append,args:=#[s,x],argTypes:=#[t,tn]})
  (base:Nat) (e:TypeId) (i:TypeInfo) (ht:P.underlying t=some (.slice e)) (htn:P.underlying tn=some (.int .i64)) (hi:P.info? e=some i) (hz:i.zero=some (.int .u8 0))
  (hsize:i.size=1) (hby:i.bytes=1)
  (v:Value) (n:Nat) (xs:List Value) (hs:a.eval s=v) (hown:w.ownsRow base e 1 v n xs) (k:Nat) (hx:a.eval x= .int .i64 k)
  (h63:n+k<=140737488355328) (hbase:base<=w.heap.size)
  (h:∀A' c' w',w'.ownsRow base e 1 (.slice A' (n+k) c') (n+k) (xs++bv (List.replicate k 0))->w.grownBy w' v.ownBlock->Below base w w'->
   wpList P ops Q rest (a.put o.dst (.slice A' (n+k) c')) w'):wpList P ops Q (o::rest) a w:=
 wpList_plain hgd fun _ hK=>by
  obtain⟨v',w',z0,h2,h3⟩:=O5 (P:=P) w base t tn o.type e i ht htn hi hz hsize hby v n xs hown k h63 hbase;obtain⟨A',c',rfl⟩:=QN h2;unfold Oper.wp execOp;simp only[ho,resolve,invoke,builtin,Sem.run_bind,Sem.run_pure,Result.andThen_ok,LB,Lg,List.map_nil,hs,hx,z0];exact hK _ _ (h A' c' w' h2 h3 (ZF hown hbase h3))
end
theorem tree_cases(t:Int):t<1∨5<t∨t=1∨t=2∨t=3∨t=4∨t=5:=by omega
theorem Yn(t:Int)(b:Bool)(w:World):Calls prog 160 #[.int .i64 t, .bool b] w fun e w'=>e= .returned (.int .i64 (QV t b))/\w=w':=by
 rcases tree_cases t with h|h|rfl|rfl|rfl|rfl|rfl
 ·have hv:QV t b=0:=by unfold QV;rw[if_pos (.inl h)]
  have d1:decide (t<1)=true:=decide_eq_true h;rw[hv];clear hv;go_enter func160,ntmps160
  go_wp2;go_ret;exact⟨rfl,rfl⟩
 ·have hv:QV t b=0:=by unfold QV;rw[if_pos (.inr h)]
  have d1:decide (t<1)=false:=decide_eq_false (by omega);have d2:decide (5<t)=true:=decide_eq_true h;rw[hv];clear hv;go_enter func160,ntmps160
  go_wp2;go_ret;exact⟨rfl,rfl⟩
 all_goals
  cases b;all_goals
   go_enter func160,ntmps160
   go_wp2;go_ret;exact⟨rfl,rfl⟩
theorem YZ(t:Int)(b:Bool)(w:World):Calls prog 161 #[.int .i64 t, .bool b] w fun e w'=>e= .returned (.int .i64 (ZE t b))/\w=w':=by
 have hw:=Yn t b w;have hc:QV t b=0/\ZE t b=0∨QV t b=4/\ZE t b=18∨QV t b=8/\ZE t b=12∨QV t b=16/\ZE t b=9∨QV t b=24/\ZE t b=6:=by
  unfold QV ZE
  split
  ·simp
  ·split
   ·simp
   ·split
    ·simp
    ·split
     ·simp
     ·split<;>simp
 rcases hc with⟨h1,h2⟩|⟨h1,h2⟩|⟨h1,h2⟩|⟨h1,h2⟩|⟨h1,h2⟩
 all_goals
  rw[h1] at hw;rw[h2];clear h1 h2;go_enter func161,ntmps161
  go_wp2_with fail
  refine hw.mono ?_;rintro e w1 ⟨rfl,rfl⟩;clear hw;go_wp2;go_ret;exact⟨rfl,rfl⟩
theorem Qi{W:World}{b:Nat}{cur:Array Value}{t e:TypeId}{fz:Nat×Nat}(h:W.heap[b]?=some (.cells cur t fz))(ht:t≠e){base size k:Nat}{v:Value}{xs:List Value}(hr:W.ownsRow base e size v k xs):some b≠v.ownBlock:=by
 rcases hr.2 with⟨rfl,_⟩|⟨g,cap,cur',rfl,_,z0,_⟩
 ·simp[Value.ownBlock]
 ·intro e';obtain rfl:b=g:=by simpa[Value.ownBlock] using e'
  have:=h.symm.trans z0;simp at this;exact ht this.2.1
section
variable {P:Program}
theorem Ox(w:World)(dT sT ty e:TypeId)(hu:P.underlying dT=some (.slice e))(hsz:(P.info? e).map (·.size)=some 1)
  (base g n cap:Nat) (xs:List Value) (hown:w.ownsRow base e 1 (.slice (some ⟨g,0,none⟩) n cap) n xs) (off dLen dCap:Nat)
  (l:List UInt8) (hm:l.length<=dLen) (hoff:off+l.length<=n):
  ∃w',(Builtin.copy_ #[dT,sT] ty #[.slice (some ⟨g,off,none⟩) dLen dCap, .string ⟨l.toArray⟩]).run P w= .ok (.int .i64 l.length) w'/\
   w'.ownsRow base e 1 (.slice (some ⟨g,0,none⟩) n cap) n (xs.take off++(bv l++xs.drop (off+l.length)))/\w.grownBy w' (some g)/\w'.heap.size=w.heap.size:=by
 have z4:=hown.1;simp only[NE] at z4;rcases hown.2 with⟨h',_⟩|⟨g',cap',z1,h',hb,hg,z6,z7,z9,z0⟩
 ·cases h'
 ·simp only[Value.slice.injEq,Li,Addr.mk.injEq,and_true,true_and] at h';obtain⟨rfl,rfl⟩:=h';simp only[NE] at z9 z0;have hz:(ByteArray.mk l.toArray).size=l.length:=by simp[ByteArray.size]
  have z2:=Lib.run_copy_row_string (P:=P) w dT sT ty e g off dLen dCap ⟨l.toArray⟩ z1 e hu hsz hg (by rw[hz];exact hm) (by rw[hz];omega);have z8:Lib.byteCells l=bv l:=rfl;rw[hz] at z2;simp only[z8] at z2;have z3:z1.toList=xs++z1.toList.drop n:=by rw[<-z0,N0]
  have hL:(z1.toList.take off++bv l++z1.toList.drop (off+l.length))=(xs.take off++(bv l++xs.drop (off+l.length)))++z1.toList.drop n:=by
   conv=>lhs;rw[z3]
   rw[N4 (by omega),List.drop_append_of_le_length (by omega)];simp
  have z5:(xs.take off++(bv l++xs.drop (off+l.length))).length=n:=by
   simp only[List.length_append,Ni,Nq,Qm];omega
  refine⟨_,z2,⟨by rw[z5,NE], .inr ⟨g,cap,_,rfl,hb,setRow_heap w g z1 _ e _ hg,z6,z7,?_,?_⟩⟩,⟨rfl,rfl,rfl,by simp,fun k _ hk=>setRow_other w g k _ (fun e=>hk (by rw[e]))⟩,by simp⟩
  ·rw[hL,Ny,D7,z5,Nq,Ly,NE];omega
  ·rw[hL,NE,N4 (by omega),NW (by omega)]
end
theorem eq_of_steps{α:Type}{x y:List α}(hl:x.length=y.length)(h:∀j,j<x.length->x[j]?=y[j]?):x=y:=by
 apply List.ext_getElem?
 intro j;rcases NC j x.length with h1|h1
 ·exact h j h1
 ·rw[NI h1,NI (by omega)]
theorem equalb_any(A:Option Addr)(c:Nat)(A2:Option Addr)(c2:Nat)(x y:List UInt8)(w:World)(B B2:Nat)(hm:x.length<=reachBytes)(hm2:y.length<=reachBytes)(h:Qh w B A (bv x))(h2:Qh w B2 A2 (bv y)):
  Calls prog 153 #[.slice A x.length c, .slice A2 y.length c2] w fun e w'=>e= .returned (.bool (decide (x=y)))/\Below w.heap.size w w':=by
 simp only[reachBytes] at hm hm2;by_cases hl:x.length=y.length
 ·have z5:=DY (fun h=>decide_eq_true (eq_of_steps hl h));have z6:=DY (fun(j:Nat) (a b:UInt8) (ha:x[j]?=some a) (hb:y[j]?=some b) (hab:(a.toNat:Int)≠b.toNat)=>(show decide (x=y)=false from decide_eq_false fun e=>by subst e;rw[ha] at hb;injection hb with hb;subst hb;exact hab rfl));generalize decide (x=y)=q at*;rw[<-hl];have hl2:=hl;clear hl;go_enter func153,ntmps153
  go_wp2_with fail
  go_loopw [13] (fun i wr=>∃k m:Nat,k<=x.length/\i= .int .i64 k/\wr=w.drewN m/\∀j,j<k->x[j]?=y[j]?) (fun i _=>x.length-(intOf i).toNat)
  case atStart=>exact⟨0,0,by omega,rfl,rfl,fun j hj=>absurd hj (by omega)⟩
  case round=>
   obtain⟨k,m,hk,rfl,z2,hz⟩:=hrel;have z3:=DY z2;have HZ:=DY hz;clear hz;by_cases hlt:k<x.length
   ·obtain⟨ad,rfl,_,hc⟩:=(h.drewN m).byte hlt;obtain⟨ad2,rfl,_,DU⟩:=(h2.drewN m).byte (show k<y.length by omega);rw[<-z2] at hc DU;have g1:=List.getElem?_eq_getElem hlt;have g2:=List.getElem?_eq_getElem (show k<y.length by omega);have hbk:(0:Int)<=(k:Int):=by omega
    have hlt':(k:Int)<(x.length:Int):=by omega
    have HG:=Lib.hid (DZ g1 g2);clear z2 g1 g2;have z1:=Lib.hid (z6.out k _ _ HG.out.1 HG.out.2);have z4:=Lib.hid (fun(hab:(x[k].toNat:Int)=y[k].toNat)=>(show x[k]?=y[k]? by rw[HG.out.1,HG.out.2,show x[k]=y[k] from UInt8.toNat_inj.1 (by omega)]));have z0:=x[k].toNat_lt;generalize x[k].toNat=a at*;generalize y[k].toNat=b at*;by_cases hab:(a:Int)=(b:Int)
    ·have HS:=DY (fun j (hj:j<k+1)=>(show x[j]?=y[j]? by
      rcases Nat.lt_or_ge j k with h1|h1
      ·exact HZ j h1
      ·obtain rfl:j=k:=by omega
       exact z4.out hab))
     rw[<-hab] at DU;have d1:((a:Int) !=(a:Int))=false:=by simp
     clear hab z1 z4;go_wp2_with fail
     go_quiet (fail)
     go_wp2;go_roundw
     case rel=>exact⟨k+1,_,by omega,by go_num,by rw[z3.out,World.drewN_drewN],HS.out⟩
     case measure=>simp[intOf];omega
    ·have d1:((a:Int) !=(b:Int))=true:=by simpa using hab
     have HF:=DY (z1.out hab);clear hab z1 z4;go_wp2_with fail
     go_quiet (fail)
     go_wp2;go_ret;exact⟨by rw[HF.out];rfl,by rw[z3.out,World.drewN_drewN];exact Zn (D6 _ _) _⟩
   ·obtain rfl:k=x.length:=by omega
    have HT:=Lib.hid (z5.out HZ);clear z2;go_wp2;go_ret;exact⟨by rw[HT.out];rfl,by rw[z3.out];exact Zn (D6 _ _) m⟩
 ·have hf:decide (x=y)=false:=decide_eq_false fun e=>hl (by rw[e])
  rw[hf];have d1:((x.length:Int) !=(y.length:Int))=true:=by simp;omega
  clear hf hl;go_enter func153,ntmps153
  go_wp2;go_ret;exact⟨rfl,D6 _ _⟩
def dfk(a b:List Int)(k:Nat):List Int:=((List.range k).filter fun i=>a[i]? !=b[i]?).map fun i:Nat=>(i:Int)
def Zl(a b:List Int):List Int:=dfk a b (max a.length b.length)
theorem dfk_snoc(a b:List Int)(k:Nat):dfk a b (k+1)=dfk a b k++if a[k]? !=b[k]? then [(k:Int)] else []:=by
 unfold dfk;rw[NU,List.filter_append,Ns]
 congr 1
 by_cases h:(a[k]? !=b[k]?)=true
 ·simp[h]
 ·have h':(a[k]? !=b[k]?)=false:=by simpa using h
  simp[h']
theorem Rn(a b:List Int)(k:Nat):(dfk a b k).length<=k:=by
 unfold dfk;rw[NN];have:=List.length_filter_le (fun i=>a[i]? !=b[i]?) (List.range k)
 rwa[LN] at this
theorem Dz(a b:List Int)(k:Nat)(h:a[k]?≠b[k]?):dfk a b (k+1)=dfk a b k++[(k:Int)]:=by
 rw[dfk_snoc,if_pos (by simpa using h)]
theorem dfk_no(a b:List Int)(k:Nat)(h:a[k]?=b[k]?):dfk a b (k+1)=dfk a b k:=by
 rw[dfk_snoc,if_neg (by simp[h]),NZ]
theorem Ob(A:Option Addr)(c:Nat)(a:List Int)(A2:Option Addr)(c2:Nat)(b:List Int)(w:World)(hm:a.length<=200000)(hm2:b.length<=200000)(h:Qh w w.heap.size A (iv a))(h2:Qh w w.heap.size A2 (iv b)):
  Calls prog 30 #[.slice A a.length c, .slice A2 b.length c2] w (XQ 3 (iv (Zl a b)) w):=by
 obtain⟨i0',hi,zb,z9,za⟩:=info_parts Tryz.infoI64;obtain⟨M,hM⟩:∃M,max a.length b.length=M:=⟨_,rfl⟩;have hM1:a.length<=M:=by omega
 have hM2:b.length<=M:=by omega
 have hM3:M<=200000:=by omega
 have hd:Zl a b=dfk a b M:=by unfold Zl;rw[hM]
 have HD:=DY hd;have hM4:M<=a.length∨M<=b.length:=by omega
 have HMX:=DY hM;clear hd hM;go_enter func30,ntmps30
 go_upto_region 2 with fail
 go_cut [11,12] (fun s11 s12 wx=>s11= .int .i64 M/\s12= .int .i64 0/\w=wx)
 case first=>
  go_wp2
  ·go_meet
   exact⟨by rw[show M=b.length by omega],rfl,rfl⟩
  ·go_meet
   exact⟨by rw[show M=a.length by omega],rfl,rfl⟩
 case rest=>
  obtain⟨rfl,rfl,rfl⟩:=hcut;go_wp2_with fail
  go_loopw [5,12] (fun v i wr=>∃k:Nat,k<=M/\i= .int .i64 k/\wr.ownsRow w.heap.size 3 1 v (dfk a b k).length (iv (dfk a b k))/\Below w.heap.size w wr) (fun _ i _=>M-(intOf i).toNat)
  case atStart=>exact⟨0,by omega,rfl,Nb _ _ _ _,D6 _ _⟩
  case round=>
   obtain⟨k,hk,rfl,z3,z4⟩:=hrel;have hlen:=Rn a b k;obtain⟨Ao,co,rfl⟩:=QN z3;by_cases hlt:k<M
   ·have i0:(0:Int)<=(k:Int):=by omega
    by_cases ha:k<a.length
    ·have e1:decide (a.length<=k)=false:=decide_eq_false (by omega);have ha':(k:Int)<(a.length:Int):=by omega
     by_cases hb:k<b.length
     ·have e2:decide (b.length<=k)=false:=decide_eq_false (by omega);have hb':(k:Int)<(b.length:Int):=by omega
      obtain⟨ad,rfl,_,hc⟩:=(h.below z4).num ha;obtain⟨ad2,rfl,_,DU⟩:=(h2.below z4).num hb;have g1:a[k]?=some a[k]:=D1 ha;have g2:b[k]?=some b[k]:=D1 hb;by_cases hx:a[k]=b[k]
      ·have hd:=dfk_no a b k (by rw[g1,g2,hx]);have z5:=DY hd;have e3:(a[k] !=b[k])=false:=by simpa using hx
       clear hd g1 g2 hx;generalize a[k]=x at*;generalize b[k]=y at*;go_wp2_with fail
       go_quiet (fail)
       go_wp2;go_roundw
       case rel=>exact⟨k+1,by omega,by go_num,by rw[z5.out];exact z3,Zn z4 _⟩
       case measure=>simp[intOf];omega
      ·have hd:=Dz a b k (by rw[g1,g2];simpa using hx);have z5:=DY hd;have e3:(a[k] !=b[k])=true:=by simpa using hx
       clear hd g1 g2 hx;generalize a[k]=x at*;generalize b[k]=y at*;go_wp2_with fail
       go_quiet (fail)
       have z7:=Qh.new (wr.drewN nq) (iv [(k:Int)]) 3 (0,0);have z2:=Zn z4 nq;have z0:(wr.drewN nq).ownsRow w.heap.size 3 1 (.slice Ao (dfk a b k).length co) (dfk a b k).length (iv (dfk a b k)):=z3;have z8:=z2.size;generalize wr.drewN nq=wq at*;go_wp2_with (at_builtin;refine QE _ rfl (.tmp 36) (.tmp 38) _ rfl w.heap.size 3 i0' _ 8 underlying68 hi zb z9 za rfl _ (dfk a b k).length (iv (dfk a b k)) rfl (z0.alloc _) _ _ 1 1 (iv [(k:Int)]) rfl rfl z7 (Jo _) (by simp only[maxLen];omega) (by omega) (by simp;omega) ?_;intro A' c' w3 z1 zc z6 _)
       go_roundw
       case rel=>exact⟨k+1,by omega,by go_num,by rw[z5.out,Xb,D7];exact z1,(z2.alloc z8 _).trans z6⟩
       case measure=>simp[intOf];omega
     ·have e2:decide (b.length<=k)=true:=decide_eq_true (by omega);have hd:=Dz a b k (by rw[NI (show b.length<=k by omega),D1 ha];simp);have z5:=DY hd;clear hd;go_wp2_with fail
      go_quiet (fail)
      have z7:=Qh.new (wr.drewN nq) (iv [(k:Int)]) 3 (0,0);have z2:=Zn z4 nq;have z0:(wr.drewN nq).ownsRow w.heap.size 3 1 (.slice Ao (dfk a b k).length co) (dfk a b k).length (iv (dfk a b k)):=z3;have z8:=z2.size;generalize wr.drewN nq=wq at*;go_wp2_with (at_builtin;refine QE _ rfl (.tmp 36) (.tmp 38) _ rfl w.heap.size 3 i0' _ 8 underlying68 hi zb z9 za rfl _ (dfk a b k).length (iv (dfk a b k)) rfl (z0.alloc _) _ _ 1 1 (iv [(k:Int)]) rfl rfl z7 (Jo _) (by simp only[maxLen];omega) (by omega) (by simp;omega) ?_;intro A' c' w3 z1 zc z6 _)
      go_roundw
      case rel=>exact⟨k+1,by omega,by go_num,by rw[z5.out,Xb,D7];exact z1,(z2.alloc z8 _).trans z6⟩
      case measure=>simp[intOf];omega
    ·have e1:decide (a.length<=k)=true:=decide_eq_true (by omega);have hd:=Dz a b k (by rw[NI (by omega),D1 (show k<b.length by omega)];simp);have z5:=DY hd;clear hd;go_wp2_with fail
     go_quiet (fail)
     have z7:=Qh.new (wr.drewN nq) (iv [(k:Int)]) 3 (0,0);have z2:=Zn z4 nq;have z0:(wr.drewN nq).ownsRow w.heap.size 3 1 (.slice Ao (dfk a b k).length co) (dfk a b k).length (iv (dfk a b k)):=z3;have z8:=z2.size;generalize wr.drewN nq=wq at*;go_wp2_with (at_builtin;refine QE _ rfl (.tmp 36) (.tmp 38) _ rfl w.heap.size 3 i0' _ 8 underlying68 hi zb z9 za rfl _ (dfk a b k).length (iv (dfk a b k)) rfl (z0.alloc _) _ _ 1 1 (iv [(k:Int)]) rfl rfl z7 (Jo _) (by simp only[maxLen];omega) (by omega) (by simp;omega) ?_;intro A' c' w3 z1 zc z6 _)
     go_roundw
     case rel=>exact⟨k+1,by omega,by go_num,by rw[z5.out,Xb,D7];exact z1,(z2.alloc z8 _).trans z6⟩
     case measure=>simp[intOf];omega
   ·obtain rfl:k=M:=by omega
    have HDL:=DY (QK (dfk a b k));go_wp2;go_ret;exact⟨Ao,co,by rw[HD.out,QK];rfl,by rw[HD.out,QK];exact z3,z4⟩
def stg(k n:Int)(l:List UInt8)(j:Nat):List UInt8:=if j=0 then JI l else if j=1 then Dj n l else Di k n l
theorem Vt(k n:Int)(l:List UInt8)(h:l.length<=244)(j:Nat):(stg k n l j).length=256:=by
 unfold stg
 split
 ·exact GZ l h
 ·split
  ·exact put1_len n l h
  ·exact RX k n l h
theorem zeros_step(l:List UInt8)(h:l.length<=244):(bv (List.replicate 256 0)).take 8++((bv l).take (256-8)++(bv (List.replicate 256 0)).drop (8+(bv l).length))=bv (JI l):=by
 rw[Qm,Xi,Xi,Xj,<-Ze,<-Ze];unfold JI;rw[List.take_replicate,List.drop_replicate,NW (by omega)]
 congr 4
 omega
theorem made_zeros2(n:Nat):(madeCells (Value.int .u8 0).cells (n*1)).toList=bv (List.replicate n 0):=by
 rw[NE];apply Lo
 ·simp[madeCells,bv]
 ·intro i h1 h2;simp[madeCells,bv,Value.cells,LT]
theorem own_cap'{w:World}{B n c:Nat}{e:TypeId}{A:Option Addr}{xs:List Value}(h:w.ownsRow B e 1 (.slice A n c) n xs)(hn:0<n):n<=c:=by
 rcases h.2 with⟨hv,hz⟩|⟨g',cap,cur,hv,_,_,hnc,_⟩
 ·omega
 ·injection hv with e1 e2 e3
  omega
theorem seal_any(k n:Int)(A:Option Addr)(c:Nat)(l:List UInt8)(w:World)(wk:(Lit.int .i64 k).wf=true)(wn:(Lit.int .i64 n).wf=true)(h:Qh w w.heap.size A (bv l)):
  Calls prog 183 #[.int .i64 k, .int .i64 n, .slice A l.length c] w (Xl 5 (bv (QX k n l)) (Yb k n l) w):=by
 have z9:=fun W=>RK k n W
 cases hk:XV k n with
 |false=>
  have hv:QX k n l=[]/\Yb k n l=1:=by
   have:Yb k n l=1:=by unfold Yb;rw[hk];rfl
   unfold QX;rw[this];exact⟨rfl,rfl⟩
  rw[hv.1,hv.2];rw[hk] at z9;clear hv hk;go_enter func183,ntmps183
  go_wp2_with fail
  refine(z9 _).mono ?_;rintro e w1 ⟨rfl,rfl⟩;clear z9;go_wp2;go_ret2
  exact⟨none,0,rfl,Nb _ _ _ _,D6 _ _⟩
 |true=>
  by_cases hl:l.length<=244
  ·have hE:Yb k n l=0:=by unfold Yb;rw[if_pos hk,if_pos hl]
   have hV:QX k n l=Ee k n l:=by unfold QX;rw[if_pos hE]
   rw[hE,hV];rw[hk] at z9;obtain⟨⟨p1,p2⟩,⟨p3,p4⟩,p5⟩:=seal_puts hk l hl;have q1:=fun A c W (h:Qh W W.heap.size A (bv (stg k n l 0)))=>Dg A c (stg k n l 0) 0 4 n W _ (Na _) wn (by rw[Vt k n l hl];decide) h
   have q2:=fun A c W (h:Qh W W.heap.size A (bv (stg k n l 1)))=>Dg A c (stg k n l 1) 4 2 k W _ (Na _) wk (by rw[Vt k n l hl];decide) h
   have zu:=sumW_lt k (VC k n l);have q3:=fun A c W (h:Qh W W.heap.size A (bv (stg k n l 2)))=>Dg A c (stg k n l 2) 252 4 (O0 k (VC k n l):Nat) W _ (Na _) (by simp[Lit.wf,IntKind.min,IntKind.max,IntKind.bits,IntKind.signed];omega) (by rw[Vt k n l hl];decide) h
   have q4:=fun A c W (hq:256<=c) (h:Qh W W.heap.size A (bv (stg k n l 2)))=>ssum_any A c (stg k n l 2) k W (Vt k n l hl 2) hq h
   rw[show(stg k n l 2).take 252=VC k n l from El k n l hl] at q4
   rw[show UI (stg k n l 0) 0 4 n=stg k n l 1 from p2,show VL (stg k n l 0) 0 4 n=0 from p1,Vt k n l hl] at q1
   rw[show UI (stg k n l 1) 4 2 k=stg k n l 2 from p4,show VL (stg k n l 1) 4 2 k=0 from p3,Vt k n l hl] at q2
   rw[show UI (stg k n l 2) 252 4 (O0 k (VC k n l):Nat)=Ee k n l from(p5 _ zu).2,show VL (stg k n l 2) 252 4 (O0 k (VC k n l):Nat)=0 from(p5 _ zu).1,Vt k n l hl] at q3
   have HM:=DY (show(madeCells (Value.int .u8 0).cells (256*1)).toList=bv (List.replicate 256 0) from made_zeros2 256);have HZ:=DY (zeros_step l hl);have zt:Hid (JI l=stg k n l 0):=rfl;have HL:=DY (Vt k n l hl);have zh:=DY (sealB_len k n l hl);have zv:(prog.info? 5).map (·.size)=some 1:=by kernel_rfl
   obtain⟨i0,hi,zq,zo,zp⟩:=info_parts Tryz.infoU8;have hl':decide (244<(l.length:Int))=false:=decide_eq_false (by omega);generalize O0 k (VC k n l)=S at*;generalize Ee k n l=SB at*;clear hE hV p1 p2 p3 p4 p5 hk wk wn;go_enter func183,ntmps183
   go_wp2_with fail
   refine(z9 _).mono ?_;rintro e w1 ⟨rfl,rfl⟩;clear z9;go_wp2_with (at_make;refine wpList_make_full _ rfl (.const _) (.const _) _ rfl w.heap.size 5 i0 _ 1 underlying22 hi zq zo .i64 .i64 256 256 256 rfl rfl (by omega) (by omega) (by rw[zp];omega) (by simp only[maxLen];omega) (Na _) ?_;intro w4 z5 zl;rw[HM.out] at z5;have zi:Below w.heap.size w w4:=(D6 _ _).grown zl (Na _) (fun k hk=>by cases hk);have zs:=h.grown zl (Na _) (fun k hk=>by cases hk);obtain⟨w5,z6,z3,zr,zw⟩:=XY w4 22 22 3 5 underlying22 zv w.heap.size w.heap.size 256 256 (bv (List.replicate 256 0)) z5 8 (by decide) (some ⟨w.heap.size,8,none⟩) 248 248 (by decide) (fun _=>rfl) w.heap.size A l.length c (bv l) (Qm l).symm zs (Yz _);rw[HZ.out,zt.out] at z3;have zj:Below w.heap.size w w5:=zi.grown zr zi.size (fun k hk=>by cases hk;omega);have z6:(Builtin.copy_ #[22,22] 3 #[.slice (some ⟨w.heap.size,8,none⟩) 248 248, .slice A l.length c]).run prog w4= .ok (goInt (min l.length (256-8):Nat)) w5:=z6;clear zw)
   have zf:=heap_alloc_new w5 (.cells #[.int .i64 0, .int .i64 4, .int .i64 n, .int .i64 4, .int .i64 2, .int .i64 k] 374);have zd:=zj.alloc zj.size (.cells #[.int .i64 0, .int .i64 4, .int .i64 n, .int .i64 4, .int .i64 2, .int .i64 k] 374);have za:=z3.alloc (.cells #[.int .i64 0, .int .i64 4, .int .i64 n, .int .i64 4, .int .i64 2, .int .i64 k] 374);clear z6 zr z3 zs zl z5 zi zj HM HZ zt zq zo zp hi zv h;go_loopw [8,10,29] (fun b _ i wr=>∃(j:Nat) (A':Option Addr) (c':Nat),j<=2/\i= .int .i64 j/\b= .slice A' 256 c'/\wr.heap[w5.heap.size]?=some (.cells #[.int .i64 0, .int .i64 4, .int .i64 n, .int .i64 4, .int .i64 2, .int .i64 k] 374)/\wr.ownsRow w.heap.size 5 1 (.slice A' 256 c') 256 (bv (stg k n l j))/\Below w.heap.size w wr) (fun _ _ i _=>2-(intOf i).toNat)
   case atStart=>exact⟨0,_,_,by omega,rfl,rfl,zf,za,zd⟩
   case round=>
    obtain⟨j,A',c',hj,rfl,rfl,z8,z1,z7⟩:=hrel;clear zf za zd;have hj:j=0∨j=1∨j=2:=by omega
    rcases hj with rfl|rfl|rfl
    ·obtain⟨e0,e1,e2⟩:=DV z8;have q:=q1 A' c' (wr.alloc (.cells #[.int .i64 0, .int .i64 4, .int .i64 n] 374)) ((Qh.of_own z1).ext (Qd _ _));clear q1 q2 q3 q4;go_wp2_with fail
     refine q.mono ?_;rintro e w6 ⟨A2,c2,rfl,z0,zb⟩;rw[Qm,HL.out 1] at z0;rw[Qm,HL.out 1];have ze:=Qb (z7.alloc z7.size (.cells #[.int .i64 0, .int .i64 4, .int .i64 n] 374)) zb;have zc:=Qe (Qj z8 (.cells #[.int .i64 0, .int .i64 4, .int .i64 n] 374)) zb;have z4:=Q7 z0 (show w.heap.size<=(wr.alloc (.cells #[.int .i64 0, .int .i64 4, .int .i64 n] 374)).heap.size by have:=z7.size;simp;omega);clear q z0 zb z8 z1 z7 e0 e1 e2;go_wp2;go_roundw
     case rel=>exact⟨1,A2,c2,by omega,by go_num,rfl,zc,z4,ze⟩
     case measure=>simp[intOf]
    ·have e3:=Qa z8 3 rfl;have e4:=Qa z8 4 rfl;have e5:=Qa z8 5 rfl;have q:=q2 A' c' (wr.alloc (.cells #[.int .i64 4, .int .i64 2, .int .i64 k] 374)) ((Qh.of_own z1).ext (Qd _ _));clear q1 q2 q3 q4;go_wp2_with fail
     refine q.mono ?_;rintro e w6 ⟨A2,c2,rfl,z0,zb⟩;rw[Qm,HL.out 2] at z0;rw[Qm,HL.out 2];have ze:=Qb (z7.alloc z7.size (.cells #[.int .i64 4, .int .i64 2, .int .i64 k] 374)) zb;have zc:=Qe (Qj z8 (.cells #[.int .i64 4, .int .i64 2, .int .i64 k] 374)) zb;have z4:=Q7 z0 (show w.heap.size<=(wr.alloc (.cells #[.int .i64 4, .int .i64 2, .int .i64 k] 374)).heap.size by have:=z7.size;simp;omega);clear q z0 zb z8 z1 z7 e3 e4 e5;go_wp2;go_roundw
     case rel=>exact⟨2,A2,c2,by omega,by go_num,rfl,zc,z4,ze⟩
     case measure=>simp[intOf]
    ·have zm:=own_cap' z1 (by omega);have q:=q4 A' c' wr zm (Qh.of_own z1);clear q1 q2 q4 z8;go_wp2_with fail
     refine q.mono ?_;rintro e w6 ⟨rfl,zk⟩;have zd:=Qb z7 zk;have q5:=q3 A' c' w6 ((Qh.of_own z1).ext zk);clear q q3 z1 zk z7;go_wp2_with fail
     refine q5.mono ?_;rintro e w7 ⟨A7,c7,rfl,z2,zn⟩;rw[Qm,zh.out] at z2;rw[Qm,zh.out];have ze:=Qb zd zn;have zg:=Q7 z2 zd.size;clear q5 z2 zn zd;go_wp2;go_ret2
     exact⟨A7,c7,by rw[Qm,zh.out];rfl,by rw[Qm,zh.out];exact zg,ze⟩
  ·have hv:QX k n l=[]/\Yb k n l=2:=by
    have:Yb k n l=2:=by unfold Yb;rw[if_pos hk,if_neg hl]
    unfold QX;rw[this];exact⟨rfl,rfl⟩
   rw[hv.1,hv.2];rw[hk] at z9;clear hv hk;have hl':decide (244<(l.length:Int))=true:=decide_eq_true (by omega);go_enter func183,ntmps183
   go_wp2_with fail
   refine(z9 _).mono ?_;rintro e w1 ⟨rfl,rfl⟩;clear z9;go_wp2;go_ret2
   exact⟨none,0,rfl,World.ownsRow_nil _ _ _ _,D6 _ _⟩
section
open Go.RowKit Go.Shelf
def Bears{α:Type}(B:Nat)(I:α->World->Prop):Prop:=∀s (W:World) (l:Nat) (o o':Obj),B<=l->W.heap[l]?=some o->o.isCells=false->I s W->I s (W.putObj l o')
section
variable {n:Nat} {P:Program} {α:Type}
def YS(l d:Nat)(r:Loop)(W:World):Prop:=W.heap[l]?=some (.loop r)/\W.heap[d]?=some (.deferred (some []))
theorem YS.others{l d:Nat}{r:Loop}{W W':World}(h:YS l d r W)(k:KeepsOthers W W'):YS l d r W':=⟨k.same _ _ h.1 rfl,k.same _ _ h.2 rfl⟩
theorem YS.put{l d:Nat}{r r':Loop}{W:World}(h:YS l d r W)(hne:d≠l):YS l d r' (W.putObj l (.loop r')):=
 ⟨World.putObj_heap_same (D0.1 h.1).1,(World.putObj_heap_other hne).trans h.2⟩
end
end
section
open Go.RowKit Go.Shelf
def UG{α:Type}(n:Nat)(P:Program)(g:Nat)(lb:Array Value)(encs:α->Array Value)(Kp Wr:World->World->Prop)(S Sp:List α->Prop)(Nx:List α->α->Prop)(w:World):Prop:=
 ∀(l:Nat) (J Jx:List α->World->Prop) (W:World),Below w.heap.size w W->(∀s A B,Wr A B->J s A->J s B)->
  (∀pre x W1,J pre W1->Nx pre x->YieldAt Fence.wide (n-1) P l (encs x) W1 fun e W'=>(e= .returned (.bool true)/\J (pre++[x]) W'/\Kp W1 W')∨(e= .returned (.bool false)/\Jx (pre++[x]) W'))->
  J [] W->CallsIn Fence.wide n P g (#[.func (.yield l) #[] #[]]++lb) W fun e W'=>(∃v,e= .returned v)/\((∃xs,S xs/\J xs W')∨(∃pre,Sp pre/\Jx pre W'))
section
variable {n:Nat} {P:Program} {α:Type}
theorem Yi{g:Operand}{ps:Array Tmp}{assign body:Code}{Q:Exit->Act->World->Prop}{a:Act}{w:World}
  (h1:1<=n) {gf:Nat} {lb:Array Value} (hg:a.eval g= .func (.func gf) #[] lb) (eg:∀args w,(callFunc gf args).run P w= .ok (.enter gf args) w)
  {encs:α->Array Value} {Kp Wr:World->World->Prop} {S Sp:List α->Prop} {Nx:List α->α->Prop} {w0:World} (hseq:UG (n-1) P gf lb encs Kp Wr S Sp Nx w0)
  (hKt:∀A B C:World,Kp A B->Kp B C->Kp A C) (hKb:∀(W:World) (l:Nat) (o o':Obj),w.heap.size<=l->W.heap[l]?=some o->o.isCells=false->o.isWalk=false->Kp W (W.putObj l o')) (z3:Below w0.heap.size w0 w) (hps:∀x,(encs x).size=ps.size)
  (hWo:∀A B:World,Wr A B->KeepsOthers A B)
  (I:List α->World->Prop) (Ix:Code->List α->World->Prop) (hI:Bears w.heap.size I) (hIw:∀s A B,Wr A B->I s A->I s B) (hIa:∀s W o,I s W->I s (W.alloc o)) (hIx:∀c,Bears w.heap.size (Ix c)) (h0:I [] w)
  (Asg:α->Act->World->Prop) (hAs:∀x b (W:World) (l:Nat) (o o':Obj),W.heap[l]?=some o->o.isCells=false->Asg x b W->Asg x b (W.putObj l o'))
  (hassign:∀(l:Nat) (x:α) (W:World) (z0:List α) (K:Act->World->Prop),I z0 W->(∀b W2,Asg x b W2->Wr W W2->Kp W W2->K b W2)->
   assign.wpIn (Fence.wide.inRound l) (n-1-1) P (Exit.then K (fun _ _ _=>False)) {tmps:=(ps.zip (encs x)).foldl (fun t (p,v)=>t.setIfInBounds p v) a.tmps,defers:=[]} W)
  (hbody:∀(l:Nat) (z0:List α) (x:α) (b:Act) (W:World),I z0 W->Asg x b W->Nx z0 x->body.wpIn (Fence.wide.inRound l) (n-1-1) P (ownPostK Kp I Ix (z0++[x]) W) b W)
  (hdone:∀(D:Nat) (xs:List α) (W:World),w.heap.size<=D->S xs->I xs W->W.heap[D]?=some (.deferred (some []))->Q .normal {a with defers:={target:= .collected D,args:=#[]}::a.defers} W)
  (hstop:∀(D:Nat) (c:Code) (z0:List α) (W:World),w.heap.size<=D->Sp z0->Ix c z0 W->W.heap[D]?=some (.deferred (some []))->c.wpIn Fence.wide n P Q {a with defers:={target:= .collected D,args:=#[]}::a.defers} W):
  (Code.rangeFunc g ps assign body).wpIn Fence.wide n P Q a w:=by
 refine wpIn_rangeFunc fun fn hfn=>?_
 rw[show Fence.wide.round=none from rfl]
 obtain⟨rc,z4⟩:∃rc:LoopState->Option Code->Loop,rc=fun st pe=>{state:=st,pending:=pe,fn,tmps:=a.tmps,params:=ps,assign,body,defers:=w.heap.size}:=⟨_,rfl⟩
 have z9:∀st pe,(rc st pe).state=st:=fun st pe=>by rw[z4]
 have zd:∀st pe,(rc st pe).pending=pe:=fun st pe=>by rw[z4]
 have zg:∀st pe st',{rc st pe with state:=st'}=rc st' pe:=fun st pe st'=>by rw[z4]
 have zj:∀st pe st' pe',{rc st pe with state:=st',pending:=pe'}=rc st' pe':=fun st pe st' pe'=>by rw[z4]
 obtain⟨L,hL⟩:=DR (w.heap.size+1);obtain⟨W1,z7⟩:=DR ((w.alloc (.deferred (some []))).alloc (.loop (rc .ready none)));have zl:YS L w.heap.size (rc .ready none) W1:=by
  rw[z7,hL];refine⟨?_,Qj (heap_alloc_new w _) _⟩;have:=heap_alloc_new (w.alloc (.deferred (some []))) (.loop (rc .ready none))
  rwa[Nr] at this
 have zh:I [] W1:=by rw[z7];exact hIa _ _ _ (hIa _ _ _ h0)
 have zi:Below w0.heap.size w0 W1:=by rw[z7];exact Qb z3 (QG w _ _)
 have z5:w.heap.size≠L:=by omega
 have z1:w.heap.size<=L:=by omega
 refine⟨L,[{target:= .collected w.heap.size,args:=#[]}],W1,{target:= .fn (.func gf) lb,args:=#[.func (.yield L) #[] #[]]},W1,gf,#[.func (.yield L) #[] #[]]++lb,W1,?_,?_,?_,?_,fun _=>h1,?_⟩
 ·rw[z7,hL,z4];exact run_enterLoop_outer _ _ _ _ _
 ·simp only[resolve,hg];simp[go_sem]
 ·intro f' hf';trivial
 ·simp[invoke,go_sem,eg]
 refine(hseq L (fun z0 W=>I z0 W/\YS L w.heap.size (rc .ready none) W) (fun z0 W=>∃c,Ix c z0 W/\YS L w.heap.size (rc .done (some c)) W) W1 zi
  (fun s A B hw h=>⟨hIw s A B hw h.1,h.2.others (hWo A B hw)⟩) ?_ ⟨zh,zl⟩).mono ?_
 ·rintro z0 x W ⟨hi,hb⟩ za;have hy:=run_yield (P:=P) (args:=encs x) hb.1 (by rw[z4];exact hps x);rw[z4] at hy;refine⟨fn,_,assign,body,hy,roundIn_of_wpIn hfn (hassign L x W z0 _ hi fun b V0 hasg hwr hkp0=>?_)⟩;have z3:YS L w.heap.size (rc .ready none) V0:=hb.others (hWo _ _ hwr);have zk:I z0 V0:=hIw _ _ _ hwr hi;have zc:=run_beginRound (P:=P) z3.1 (z9 _ _);rw[zg] at zc;have z6:YS L w.heap.size (rc .busy none) (V0.putObj L (.loop (rc .busy none))):=z3.put z5;have zf:=hKb V0 L _ (.loop (rc .busy none)) z1 z3.1 rfl rfl;refine⟨_,zc,?_⟩;refine wpIn_mono (hbody L z0 x b _ (hI z0 V0 L _ _ z1 z3.1 rfl zk) (hAs x b V0 L _ _ z3.1 rfl hasg) za) ?_;have z8:∀(jump:Option Code) (V:World),KeepsOthers (V0.putObj L (.loop (rc .busy none))) V->YS L w.heap.size (rc .busy none) V/\
    (Instr.endRound L jump).run P V= .ok (.bool jump.isNone) (V.putObj L (.loop (rc (if jump.isNone then .ready else .done) jump))):=fun jump V hk=>by
   have hv:=z6.others hk;have:=run_endRound (P:=P) jump hv.1;rw[zj] at this;exact⟨hv,this⟩
  rintro e a3 V hp;cases e with
  |normal=>
   obtain⟨hk,zb,z2⟩:=hp;obtain⟨hv,hr⟩:=z8 none V hk;exact⟨_,_,hr, .inl ⟨rfl,⟨hI _ V L _ _ z1 hv.1 rfl z2,hv.put z5⟩,hKt _ _ _ (hKt _ _ _ (hKt _ _ _ hkp0 zf) zb) (hKb V L _ _ z1 hv.1 rfl rfl)⟩⟩
  |ret=>
   obtain⟨hk,z2⟩:=hp;obtain⟨hv,hr⟩:=z8 (some .ret) V hk;exact⟨_,_,hr, .inr ⟨rfl,_,hIx _ _ V L _ _ z1 hv.1 rfl z2,hv.put z5⟩⟩
  |exit id=>
   obtain⟨hk,z2⟩:=hp;obtain⟨hv,hr⟩:=z8 (some (.exit id)) V hk;exact⟨_,_,hr, .inr ⟨rfl,_,hIx _ _ V L _ _ z1 hv.1 rfl z2,hv.put z5⟩⟩
  |goto t=>
   obtain⟨hk,z2⟩:=hp;obtain⟨hv,hr⟩:=z8 (some (.goto t)) V hk;exact⟨_,_,hr, .inr ⟨rfl,_,hIx _ _ V L _ _ z1 hv.1 rfl z2,hv.put z5⟩⟩
  |panic ch=>exact hp.elim
  |outgrown=>exact hp.elim
 ·rintro e W2 ⟨⟨v,rfl⟩,(⟨xs,hS,hi,hb⟩|⟨z0,ze,c,hi,hb⟩)⟩
  ·have:=run_endLoop (P:=P) hb.1 (by rw[z9];decide);rw[zd] at this;exact⟨none,_,this,hdone _ xs _ (Na _) hS (hI _ W2 L _ _ z1 hb.1 rfl hi) ((World.putObj_heap_other z5).trans hb.2)⟩
  ·have:=run_endLoop (P:=P) hb.1 (by rw[z9];decide);rw[zd] at this;exact⟨some c,_,this,hstop _ c z0 _ (Na _) ze (hIx c _ W2 L _ _ z1 hb.1 rfl hi) ((World.putObj_heap_other z5).trans hb.2)⟩
theorem Yj{g:Operand}{ps:Array Tmp}{assign body:Code}{Q:Exit->Act->World->Prop}{a:Act}{w:World}
  (h1:1<=n) {gf:Nat} {lb:Array Value} (hg:a.eval g= .func (.func gf) #[] lb) (eg:∀args w,(callFunc gf args).run P w= .ok (.enter gf args) w)
  {encs:α->Array Value} {Kp Wr:World->World->Prop} {S Sp:List α->Prop} {Nx:List α->α->Prop} {w0:World} (hseq:UG (n-1) P gf lb encs Kp Wr S Sp Nx w0)
  (hKt:∀A B C:World,Kp A B->Kp B C->Kp A C) (hKb:∀(W:World) (l:Nat) (o o':Obj),w.heap.size<=l->W.heap[l]?=some o->o.isCells=false->o.isWalk=false->Kp W (W.putObj l o')) (hb0:Below w0.heap.size w0 w) (hps:∀x,(encs x).size=ps.size)
  (hWo:∀A B:World,Wr A B->KeepsOthers A B)
  (I:List α->World->Prop) (Ix:Code->List α->World->Prop) (hI:Bears w.heap.size I) (hIw:∀s A B,Wr A B->I s A->I s B) (hIa:∀s W o,I s W->I s (W.alloc o)) (hIx:∀c,Bears w.heap.size (Ix c)) (h0:I [] w)
  (hWr:∀W,Wr W W) (hKr:∀W,Kp W W) (a₁:α->Act)
  (hassign:∀(l:Nat) (x:α) (W:World) (K:Act->World->Prop),K (a₁ x) W->
   assign.wpIn (Fence.wide.inRound l) (n-1-1) P (Exit.then K (fun _ _ _=>False)) {tmps:=(ps.zip (encs x)).foldl (fun t (p,v)=>t.setIfInBounds p v) a.tmps,defers:=[]} W)
  (hbody:∀(l:Nat) (pre:List α) (x:α) (W:World),I pre W->Nx pre x->body.wpIn (Fence.wide.inRound l) (n-1-1) P (ownPostK Kp I Ix (pre++[x]) W) (a₁ x) W)
  (hdone:∀(D:Nat) (xs:List α) (W:World),w.heap.size<=D->S xs->I xs W->W.heap[D]?=some (.deferred (some []))->Q .normal {a with defers:={target:= .collected D,args:=#[]}::a.defers} W)
  (hstop:∀(D:Nat) (c:Code) (pre:List α) (W:World),w.heap.size<=D->Sp pre->Ix c pre W->W.heap[D]?=some (.deferred (some []))->c.wpIn Fence.wide n P Q {a with defers:={target:= .collected D,args:=#[]}::a.defers} W):
  (Code.rangeFunc g ps assign body).wpIn Fence.wide n P Q a w:=
 Yi h1 hg eg hseq hKt hKb hb0 hps hWo I Ix hI hIw hIa hIx h0 (fun x b _=>b=a₁ x) (fun _ _ _ _ _ _ _ _ h=>h)
  (fun l x W _ K _ hK=>hassign l x W K (hK _ _ rfl (hWr W) (hKr W))) (fun l pre x b W hi hb hn=>by subst hb;exact hbody l pre x W hi hn) hdone hstop
end
end
end Go.Proofs.YtijcgllddnpmhaaGreatDoor
