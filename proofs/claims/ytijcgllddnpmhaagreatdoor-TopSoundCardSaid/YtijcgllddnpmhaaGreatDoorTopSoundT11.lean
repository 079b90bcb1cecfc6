/- TopSound: lemmas, part 11. -/
import Derived.Test.YtijcgllddnpmhaaGreatDoorTopSoundT09
import Derived.Test.YtijcgllddnpmhaaGreatDoorTopSoundT10
import Derived.OrdersIn
import Derived.IntWalk
import Derived.StillTailTactics
set_option maxRecDepth 100000
set_option maxHeartbeats 16000000
set_option linter.all false
namespace Go.Proofs.YtijcgllddnpmhaaGreatDoor
open Go.RowKit Go.Proofs.Tryz
theorem end0{P:Program}{fn:Func}{R:Ending->World->Prop}{a:Act}{w:World}(hr:fn.results=#[])(hd:a.defers=[])(hR:R (.returned (.tuple #[])) w):bodyPost P fn R .normal a w:=
 bodyPost_end (by simp[results,hr]) hd hR
def KeepP(w w':World):Prop:=∀(r:Nat) (cur:Array Value) (fz:Nat×Nat),w.heap[r]?=some (.cells cur 259 fz)->w'.heap[r]?=some (.cells cur 259 fz)
def DL(I:Nat->World->Prop)(k:Nat)(w:World)(e:Ending)(w':World):Prop:=e= .returned (.tuple #[])/\I k w'/\KeepP w w'
theorem Gp(g:Nat)(fid:FuncId)(caps:Array Value)(I:Nat->World->Prop)(bl:Int)(w:World)
  (hcall:∀(args:Array Value) (W:World),Sem.run prog (callFunc fid args) W= .ok (.enter fid args) W)
  (hdraw:∀k W n,I k W->I k (W.drewN n)) (halloc:∀k W o,I k W->I k (W.alloc o))
  (hbl:∀k W,5<=k->I k W->W.cell? ⟨g,4,none⟩=some (.int .i64 bl))
  (h0:∀W,I 0 W->Calls prog fid (#[.pointer (some ⟨g,0,none⟩), .int .i64 0, .int .i64 2147483647]++caps) W (DL I 1 W))
  (h1:∀W,I 1 W->Calls prog fid (#[.pointer (some ⟨g,1,none⟩), .int .i64 0, .int .i64 16777215]++caps) W (DL I 2 W))
  (h2:∀W,I 2 W->Calls prog fid (#[.pointer (some ⟨g,2,none⟩), .int .i64 1, .int .i64 65536]++caps) W (DL I 3 W))
  (h3:∀W,I 3 W->Calls prog fid (#[.pointer (some ⟨g,3,none⟩), .int .i64 0, .int .i64 65536]++caps) W (DL I 4 W))
  (h4:∀W,I 4 W->Calls prog fid (#[.pointer (some ⟨g,4,none⟩), .int .i64 2, .int .i64 14400]++caps) W (DL I 5 W))
  (h5:∀k W,5<=k->k<11->I k W->Calls prog fid (#[.pointer (some ⟨g,k,none⟩), .int .i64 1, .int .i64 (wrap64 (bl-1))]++caps) W (DL I (k+1) W))
  (hI:I 0 w):
  Calls prog 130 #[.pointer (some ⟨g,0,none⟩), .func (.func fid) #[] caps] w fun e w'=>e= .returned (.tuple #[])/\I 11 w':=by
 go_enter func130,ntmps130
 go_wp2_with fail
 refine(h0 _ hI).mono ?_;rintro e w1 ⟨rfl,z6,-⟩;go_wp2_with fail
 refine(h1 _ z6).mono ?_;clear hI z6;rintro e w2 ⟨rfl,hI,-⟩;go_wp2_with fail
 refine(h2 _ hI).mono ?_;clear hI;rintro e w3 ⟨rfl,hI,-⟩;go_wp2_with fail
 refine(h3 _ hI).mono ?_;clear hI;rintro e w4 ⟨rfl,hI,-⟩;go_wp2_with fail
 refine(h4 _ hI).mono ?_;clear hI;rintro e w5 ⟨rfl,hI,-⟩;clear h0 h1 h2 h3 h4;have HB:=DY hbl;have H5:=DY h5;have HD:=DY hdraw;have HA:=DY halloc;clear hbl h5 hdraw halloc;go_wp2_with fail
 go_region
 have z1:=heap_alloc_new w5 (.cells #[.pointer (some ⟨g,5,none⟩), .pointer (some ⟨g,6,none⟩), .pointer (some ⟨g,7,none⟩), .pointer (some ⟨g,8,none⟩), .pointer (some ⟨g,9,none⟩), .pointer (some ⟨g,10,none⟩)] 259);have z5:=HD.out _ _ 1 (HA.out _ _ (.cells #[.pointer (some ⟨g,5,none⟩), .pointer (some ⟨g,6,none⟩), .pointer (some ⟨g,7,none⟩), .pointer (some ⟨g,8,none⟩), .pointer (some ⟨g,9,none⟩), .pointer (some ⟨g,10,none⟩)] 259) hI);clear hI;have za:=DY z5;have z4:=DY z1;clear z5 z1;go_wp2_with fail
 go_loopw [5,51] (fun _ i wr=>∃k:Nat,k<=6/\i= .int .i64 k/\I (5+k) wr/\wr.heap[w5.heap.size]?=some (.cells #[.pointer (some ⟨g,5,none⟩), .pointer (some ⟨g,6,none⟩), .pointer (some ⟨g,7,none⟩), .pointer (some ⟨g,8,none⟩), .pointer (some ⟨g,9,none⟩), .pointer (some ⟨g,10,none⟩)] 259)) (fun _ i _=>6-(intOf i).toNat)
 case atStart=>exact⟨0,by omega,rfl,za.out,z4.out⟩
 case round=>
  obtain⟨k,hk,rfl,z0,z2⟩:=hrel;by_cases hlt:k<6
  ·have hpk:wr.cell? ⟨w5.heap.size,k,none⟩=some (.pointer (some ⟨g,5+k,none⟩)):=by
    have:k=0∨k=1∨k=2∨k=3∨k=4∨k=5:=by omega
    rcases this with rfl|rfl|rfl|rfl|rfl|rfl<;>exact Qa z2 _ rfl
   have hb4:=HB.out (5+k) wr (by omega) z0;have hc:=H5.out (5+k) wr (by omega) (by omega) z0;have k0:(0:Int)<=(k:Int):=by omega
   have k6:(k:Int)<6:=by omega
   have z9:=DY z2;have HC:=DY hc;have z3:=DY z0;clear z2 hc z0 hk hlt;go_wp2_with fail
   refine HC.out.mono ?_;rintro e w6 ⟨rfl,z8,z7⟩;clear HC z3;go_wp2;go_roundw
   case rel=>exact⟨k+1,by omega,by go_num,z8,z7 _ _ _ z9⟩
   case measure=>simp[intOf];omega
  ·obtain rfl:k=6:=by omega
   have z3:=DY z0;clear z0 z2;go_wp2;exact end0 (by rfl) rfl ⟨rfl,z3.out⟩
theorem right1_any(p:Addr)(r:Nat)(lo hi n:Int)(ok:Bool)(w:World)(hp:w.cell? p=some (.int .i64 n))(hok:w.heap[r]?=some (.cells #[.bool ok] 4)):
  Calls prog 131 #[.pointer (some p), .int .i64 lo, .int .i64 hi, .pointer (some ⟨r,0,none⟩)] w fun e w'=>e= .returned (.tuple #[])/\w'=w.setCell ⟨r,0,none⟩ (.bool (ok&&(decide (lo<=n)&&decide (n<=hi)))):=by
 have hc:w.cell? ⟨r,0,none⟩=some (.bool ok):=Qa hok 0 rfl;have hf:w.frozen? ⟨r,0,none⟩=false:=by simp[World.frozen?,hok]
 clear hok;cases ok<;>cases d1:decide (lo<=n)<;>cases d2:decide (n<=hi)<;>
 ·go_enter func131,ntmps131
  go_wp2;exact end0 (by rfl) rfl ⟨rfl,rfl⟩
theorem De(args:Array Value)(W:World):Sem.run prog (callFunc 131 args) W= .ok (.enter 131 args) W:=by
 go_simp
def QQ(n:Nat->Int):Array Value:=#[.int .i64 (n 0), .int .i64 (n 1), .int .i64 (n 2), .int .i64 (n 3), .int .i64 (n 4), .int .i64 (n 5), .int .i64 (n 6), .int .i64 (n 7), .int .i64 (n 8), .int .i64 (n 9), .int .i64 (n 10)]
def loS(k:Nat):Int:=if k=2 then 1 else if k=4 then 2 else if k<5 then 0 else 1
def hiS(n:Nat->Int)(k:Nat):Int:=if k=0 then 2147483647 else if k=1 then 16777215 else if k=2 then 65536 else if k=3 then 65536 else if k=4 then 14400 else wrap64 (n 4-1)
def okS(n:Nat->Int):Nat->Bool
 |0=>true
 |k+1=>okS n k&&(decide (loS k<=n k)&&decide (n k<=hiS n k))
theorem Ot(n:Nat->Int)(k:Nat)(h:k<11):(QQ n)[k]?=some (.int .i64 (n k)):=by
 have:k=0∨k=1∨k=2∨k=3∨k=4∨k=5∨k=6∨k=7∨k=8∨k=9∨k=10:=by omega
 rcases this with rfl|rfl|rfl|rfl|rfl|rfl|rfl|rfl|rfl|rfl|rfl<;>rfl
def DN(n:Nat->Int)(w:World)(k:Nat)(W:World):Prop:=
 W.heap[w.heap.size]?=some (.cells (QQ n) 65)/\W.heap[w.heap.size+1]?=some (.cells #[.bool (okS n k)] 4)/\Below w.heap.size w W
theorem DN.step{n:Nat->Int}{w:World}{k:Nat}{W:World}(hk:k<11)(h:DN n w k W):
  Calls prog 131 (#[.pointer (some ⟨w.heap.size,k,none⟩), .int .i64 (loS k), .int .i64 (hiS n k)]++#[.pointer (some ⟨w.heap.size+1,0,none⟩)]) W (DL (DN n w) (k+1) W):=by
 refine(right1_any ⟨w.heap.size,k,none⟩ (w.heap.size+1) (loS k) (hiS n k) (n k) (okS n k) W (Qa h.1 k (Ot n k hk)) h.2.1).mono ?_;rintro e w1 ⟨rfl,rfl⟩;refine⟨rfl,⟨?_,?_,?_⟩,?_⟩
 ·rw[heap_setCell_other W ⟨w.heap.size+1,0,none⟩ _ _ (by simp)];exact h.1
 ·exact heap_setCell_same W (w.heap.size+1) 0 _ _ _ h.2.1
 ·exact h.2.2.setCell (p:=⟨w.heap.size+1,0,none⟩) (by simp) _
 ·intro r cur fz hr;by_cases hre:r=w.heap.size+1
  ·subst hre;rw[h.2.1] at hr;simp at hr
  ·rw[heap_setCell_other W ⟨w.heap.size+1,0,none⟩ r _ (by simpa using hre)];exact hr
theorem DN.stable{n:Nat->Int}{w:World}{k:Nat}{W:World}(h:DN n w k W):(∀m,DN n w k (W.drewN m))/\∀o,DN n w k (W.alloc o):=
 ⟨fun m=>⟨h.1,h.2.1,Qs h.2.2 m⟩,fun o=>⟨Qj h.1 o,Qj h.2.1 o,h.2.2.alloc h.2.2.size o⟩⟩
theorem RC(n:Nat->Int)(w:World):
  Calls prog 74 #[.agg (QQ n)] w fun e w'=>e= .returned (.bool (okS n 11))/\Below w.heap.size w w':=by
 have h0:DN n w 0 ((w.alloc (.cells (QQ n) 65)).alloc (.cells #[.bool true] 4)):=by
  refine⟨Qj (heap_alloc_new _ _) _,?_,QG w _ _⟩;have:=heap_alloc_new (w.alloc (.cells (QQ n) 65)) (.cells #[.bool true] 4);rw[show(w.alloc (.cells (QQ n) 65)).heap.size=w.heap.size+1 from by simp] at this
  exact this
 have he:=Gp w.heap.size 131 #[.pointer (some ⟨w.heap.size+1,0,none⟩)] (DN n w) (n 4) _ De (fun k W m h=>h.stable.1 m) (fun k W o h=>h.stable.2 o) (fun k W hk h=>Qa h.1 4 rfl) (fun W h=>h.step (by omega)) (fun W h=>h.step (by omega)) (fun W h=>h.step (by omega)) (fun W h=>h.step (by omega)) (fun W h=>h.step (by omega)) (fun k W h5 h11 h=>by
  have:=h.step h11;rw[show loS k=1 from by unfold loS;rw[if_neg (by omega),if_neg (by omega),if_neg (by omega)],show hiS n k=wrap64 (n 4-1) from by unfold hiS;rw[if_neg (by omega),if_neg (by omega),if_neg (by omega),if_neg (by omega),if_neg (by omega)]] at this
  exact this) h0
 generalize QQ n=C at*;go_enter func74,ntmps74
 go_wp2_with fail
 refine he.mono ?_;rintro e w1 ⟨rfl,h⟩;have hc:w1.cell? ⟨w.heap.size+1,0,none⟩=some (.bool (okS n 11)):=Qa h.2.1 0 rfl;have hb:=h.2.2;clear he h h0;go_wp2;go_ret;exact⟨rfl,hb⟩
def J9:List UInt8:=[83,67,65,78,84,76,73,78]
def Vp(n:Nat->Int)(k:Nat):List (Int×Int):=(4,1)::(List.range k).map fun i=>(4,n i)
def VG(n:Nat->Int):List UInt8:=J9++(ZC (Vp n 11)++List.replicate 188 0)
def XT(n:Nat->Int):List UInt8:=if okS n 11=true then VG n else []
def JP(n:Nat->Int):Int:=if okS n 11=true then 0 else 1
theorem fldS_snoc(n:Nat->Int)(k:Nat):Vp n (k+1)=Vp n k++[(4,n k)]:=by
 unfold Vp;rw[NU,List.map_append]
 rfl
theorem Gj(n:Nat->Int)(k:Nat):(Vp n k).length=k+1:=by simp[Vp]
theorem okS_lt{n:Nat->Int}{k j:Nat}(h:okS n k=true)(hj:j<=k):okS n j=true:=by
 induction k with
 |zero=>
  obtain rfl:j=0:=by omega
  exact h
 |succ k ih=>
  rcases NC j (k+1) with h1|h1
  ·simp only[okS,Nu] at h;exact ih h.1 (by omega)
  ·obtain rfl:j=k+1:=by omega
   exact h
theorem okS_at{n:Nat->Int}{k i:Nat}(h:okS n k=true)(hi:i<k):loS i<=n i/\n i<=hiS n i:=by
 have:=okS_lt h (show i+1<=k by omega);simp only[okS,Nu,decide_eq_true_eq] at this;exact this.2
theorem okS_num{n:Nat->Int}(h:okS n 11=true){i:Nat}(hi:i<11):0<=n i/\n i<4294967296:=by
 have h4:=okS_at h (show 4<11 by omega);have hx:=okS_at h hi;have l4:loS 4=2:=rfl;have r4:hiS n 4=14400:=rfl;rw[l4,r4] at h4;have hw:wrap64 (n 4-1)=n 4-1:=by
  unfold wrap64;omega
 unfold loS hiS at hx;rw[hw] at hx
 split at hx<;>split at hx<;>(try split at hx)<;>(try split at hx)<;>(try split at hx)<;>(try split at hx)<;>omega
theorem packE_all(ls:List (Int×Int))(h:∀p∈ls,p.1=4/\0<=p.2/\p.2<4294967296):Zu ls=0:=by
 induction ls with
 |nil=>rfl
 |cons x ls ih=>
  obtain⟨wd,n⟩:=x;have hx:=h (wd,n) (by simp);have h4:wd=4:=hx.1;subst h4;have hf:XD n 4=true:=by
   unfold XD;have:=hx.2;exact decide_eq_true (by simp only at this;omega)
  rw[Zu,if_pos (by decide),if_pos hf];exact ih fun p hp=>h p (by simp[hp])
theorem fldS_ok{n:Nat->Int}(h:okS n 11=true):Zu (Vp n 11)=0:=by
 refine packE_all _ fun p hp=>?_
 unfold Vp at hp;rcases Nt.1 hp with rfl|hp
 ·exact⟨rfl,by decide,by decide⟩
 ·obtain⟨i,hi,rfl⟩:=List.mem_map.1 hp;exact⟨rfl,okS_num h (by simpa using hi)⟩
theorem En(f:Nat->Int):∀l:List Nat,ZC (l.map fun i=>((4:Int),f i))=l.flatMap fun i=>leb 4 (f i).toNat
 |[]=>rfl
 |a::l=>by
  rw[Lg,ZC,En f l,List.flatMap_cons]
  rfl
theorem packB_fld(n:Nat->Int)(k:Nat):ZC (Vp n k)=leb 4 1++(List.range k).flatMap fun i=>leb 4 (n i).toNat:=by
 unfold Vp;rw[ZC,En]
 rfl
theorem Ed(f:Nat->List UInt8)(h:∀j,(f j).length=4):∀k,((List.range k).flatMap f).length=4*k
 |0=>rfl
 |k+1=>by
  rw[NU,List.flatMap_append,D7,Ed f h k];simp[h];omega
theorem Jl(n:Nat->Int):(ZC (Vp n 11)).length=48:=by
 rw[packB_fld,D7,Ed _ (fun j=>QM 4 _),QM]
theorem Ji(n:Nat->Int):(VG n).length=244:=by
 unfold VG;rw[D7,D7,Jl,Nn]
 rfl
def ZT(l:List UInt8)(i:Nat):Int:=(Xd l (12+4*(i:Int)) 4:Nat)
theorem readN_eq(l:List UInt8)(i:Nat):ZT l i=(le ((l.drop (12+4*i)).take 4):Nat):=by
 unfold ZT Xd;rw[show(12+4*(i:Int)).toNat=12+4*i by omega]
 rfl
theorem readN_lt(l:List UInt8)(i:Nat):0<=ZT l i/\ZT l i<4294967296:=by
 rw[readN_eq];have h:=OI ((l.drop (12+4*i)).take 4);have h2:((l.drop (12+4*i)).take 4).length<=4:=by rw[Ni];omega
 have h3:256 ^((l.drop (12+4*i)).take 4).length<=256 ^ 4:=Ld (by decide) h2;omega
theorem getV_read(l:List UInt8)(i:Nat)(hl:l.length=244)(hi:i<12):ZZ l (8+4*(i:Int)) 4=(((Xd l (8+4*(i:Int)) 4:Nat):Int),0):=by
 unfold ZZ;have h:=OI ((l.drop (8+4*(i:Int)).toNat).take (4:Int).toNat);have h2:((l.drop (8+4*(i:Int)).toNat).take (4:Int).toNat).length<=4:=by rw[Ni];omega
 have h3:256 ^((l.drop (8+4*(i:Int)).toNat).take (4:Int).toNat).length<=256 ^ 4:=Ld (by decide) h2;rw[if_pos (XB (by decide) (by omega) (by omega)),if_pos (by unfold Xd;omega)]
theorem getV_readN(l:List UInt8)(k:Nat)(hl:l.length=244)(hk:k<11):(ZZ l (12+4*(k:Int)) 4).1=ZT l k:=by
 have:=getV_read l (k+1) hl (by omega);rw[show 8+4*((k+1:Nat):Int)=12+4*(k:Int) by omega] at this
 rw[this]
 rfl
theorem supC_congr{n m:Nat->Int}(h:∀i,i<11->n i=m i):QQ n=QQ m:=by
 unfold QQ;rw[h 0 (by omega),h 1 (by omega),h 2 (by omega),h 3 (by omega),h 4 (by omega),h 5 (by omega),h 6 (by omega),h 7 (by omega),h 8 (by omega),h 9 (by omega),h 10 (by omega)]
def JX(l:List UInt8):Bool:=decide (l.length=244)&&(okS (ZT l) 11&&decide (VG (ZT l)=l))
def Z8(l:List UInt8):Nat->Int:=if JX l=true then ZT l else fun _=>0
def X9(l:List UInt8):Int:=if JX l=true then 0 else 7
section
attribute [local go_sem ↓] Go.wp_at_zero Go.wp_at_succ
theorem RS{l:List UInt8}(h:Vk l=false):XZ l=7/\YW l=zeroN:=by
 have h1:XZ l=7:=by unfold XZ;rw[h];rfl
 refine⟨h1,?_⟩;unfold YW;rw[h1]
 rfl
theorem Eh{l:List UInt8}{k:Nat}(h:Vk l=true)(hk:k<n2 l)(h0:Rc l k=0)(h1:kE l k≠0):XZ l=kE l k/\YW l=zeroN:=by
 have h2:XZ l=kE l k:=by unfold XZ;rw[if_pos h];exact EK _ hk h0 h1
 refine⟨h2,?_⟩;unfold YW;rw[h2,if_neg h1]
theorem read_end{l:List UInt8}(h:Vk l=true)(h0:Rc l (n2 l)=0):XZ l=0/\YW l=Z5 l (n2 l):=by
 have h2:XZ l=0:=by unfold XZ;rw[if_pos h];exact h0
 refine⟨h2,?_⟩;unfold YW;rw[h2]
 rfl
theorem errN_next{l:List UInt8}{k:Nat}(h:Rc l k=0)(h1:kE l k=0):Rc l (k+1)=0:=by unfold Rc;rw[if_pos h,h1]
theorem keyL_part(l:List UInt8)(k:Nat):OJ (Vh l k) (kN l k:Int)=kE l k:=by
 unfold OJ kE;rw[Xp];rcases N6 k with h|h
 ·subst h;simp
  split<;>split<;>first|rfl|omega
 ·rw[keysN_at l (show k-1<k by omega)]
  repeat' split
  all_goals first|rfl|omega
theorem form_shape{l:List UInt8}(h:ZX l=false):Vk l=false:=by
 unfold Vk;rw[h]
 rfl
theorem form_zeros{l:List UInt8}(h:ZX l=true):Vk l=(Yh (z1N l)&&Yh (z2N l)):=by
 unfold Vk;rw[Bool.eq_iff_iff,decide_eq_true_iff,Nu];exact⟨fun h1=>h1.2,fun h1=>⟨h,h1⟩⟩
theorem Ec{l:List UInt8}(h:ZX l=true):l.length=244/\n0 l<=1/\QV (n1 l) (lfN l)=(wB l:Int)/\4<=wB l/\wB l<=24/\mB l<=18/\n2 l<=mB l/\8*mB l+wB l*mB l<=216:=by
 unfold ZX Dt at h;rw[decide_eq_true_iff,decide_eq_true_iff] at h;obtain⟨⟨h1,h2,h3⟩,h4,h5,h6,h7,h8⟩:=h;obtain⟨g1,g2,g3,g4,g5⟩:=head_fit h3;refine⟨h1,h2,g1,g2,g5,g4,h4,?_⟩;have hc:=Ok (n1 l) (lfN l);have hm:ZE (n1 l) (lfN l)=mB l:=rfl;rw[g1,hm] at hc;rcases hc with hc|⟨hc,_⟩
 ·omega
 ·rcases hc with hc|hc|hc|hc
  all_goals
   obtain⟨e1,e2⟩:=hc;rw[show wB l=_ from Int.ofNat.inj e1,e2]
   decide
theorem ZQ(W:World)(b:Nat)(x0 x1 x2 x3:Value):W.grownBy ((((W.setCell ⟨b,0,none⟩ x0).setCell ⟨b,1,none⟩ x1).setCell ⟨b,2,none⟩ x2).setCell ⟨b,3,none⟩ x3) (some b):=by
 have tr:∀{a c d:World},a.grownBy c (some b)->c.grownBy d (some b)->a.grownBy d (some b):=fun h k=>⟨k.os.trans h.os,k.tape.trans h.tape,k.output.trans h.output,D3 h.size k.size,fun j hj hr=>(k.block j (Nh hj h.size) hr).trans (h.block j hj hr)⟩
 exact tr (tr (tr (Qo W b 0 x0) (Qo _ b 1 x1)) (Qo _ b 2 x2)) (Qo _ b 3 x3)
structure VQ(w:World)(base:Nat)(n:QF)(A:Option Addr)(c:Nat)(A2:Option Addr)(c2:Nat):Prop where
 k:w.ownsRow base 3 1 (.slice A n.keys.length c) n.keys.length (iv n.keys)
 v:w.ownsRow base 9 1 (.slice A2 n.vals.length c2) n.vals.length (sv n.vals)
theorem VQ.keep{w w':World}{base:Nat}{n:QF}{A A2:Option Addr}{c c2:Nat}(h:VQ w base n A c A2 c2)(hb:Below w.heap.size w w'):VQ w' base n A c A2 c2:=⟨QT h.k hb,QT h.v hb⟩
theorem VQ.mono{w:World}{base base':Nat}{n:QF}{A A2:Option Addr}{c c2:Nat}(h:VQ w base n A c A2 c2)(hb:base'<=base):VQ w base' n A c A2 c2:=⟨Q7 h.k hb,Q7 h.v hb⟩
theorem Vq.set4{w:World}{base b r:Nat}{n:QF}{A A2:Option Addr}{c c2:Nat}(h:Vq w base b n A c A2 c2){cs:Array Value}(hr:w.heap[r]?=some (.cells cs 113))(x0 x1 x2 x3:Value):
  VQ ((((w.setCell ⟨r,0,none⟩ x0).setCell ⟨r,1,none⟩ x1).setCell ⟨r,2,none⟩ x2).setCell ⟨r,3,none⟩ x3) base n A c A2 c2:=by
 have hg:=ZQ w r x0 x1 x2 x3;have k1:=h.k.kept hg (.inr (Qi hr (by decide) h.k).symm);have k2:=h.v.kept hg (.inr (Qi hr (by decide) h.v).symm);exact⟨k1,k2⟩
theorem partN_next(l:List UInt8)(k:Nat):Z5 l (k+1)=⟨n1 l,lfN l,Vh l k++[(kN l k:Int)],JL l k++[vN l k]⟩:=by unfold Z5;rw[keysN_next,valsN_next]
def Y3(n:QF)(err:Int)(w:World)(e:Ending)(w':World):Prop:=
 ∃A c A2 c2,e= .returned (.tuple #[.agg #[.int .i64 n.t, .bool n.leaf, .slice A n.keys.length c, .slice A2 n.vals.length c2], .int .i64 err])/\VQ w' w.heap.size n A c A2 c2/\Below w.heap.size w w'
theorem Y3.bad{n:QF}{err:Int}(hn:n=zeroN)(er:Int)(he:err=er){w w':World}(hb:Below w.heap.size w w'):Y3 n err w (.returned (.tuple #[.agg #[.int .i64 0, .bool false, .slice none 0 0, .slice none 0 0], .int .i64 er])) w':=by
 subst hn he;exact⟨none,0,none,0,rfl,⟨Nb _ _ _ _,Nb _ _ _ _⟩,hb⟩
theorem read_nodeO(A:Option Addr)(c:Nat)(l:List UInt8)(w:World)(hq:l.length<=c)(hm:l.length<=reachBytes)(h:Qh w w.heap.size A (bv l)):
  Calls prog 102 #[.slice A l.length c] w (Y3 (YW l) (XZ l) w):=by
 have HM:=DY hm;obtain⟨w1,zO,zR,zc⟩:=DS w (.cells #[.int .i64 0, .bool false, .slice none 0 0, .slice none 0 0] 113);have zX:w1.heap.size=w.heap.size+1:=by rw[zO];simp
 have ql:=DY (show w.heap.size<=w1.heap.size by omega);have KS:=shape_any A c l w1 hm (h.ext zR);have zd:=DY zR;have zq:=DY zc;have HS1:=DY zX;have HR:=DY h;have HQ:=DY hq;clear zR zc zX h hm hq;go_enter func102,ntmps102
 go_upto_region 1 with fail
 rw[<-zO];clear zO;go_wp2_with fail
 refine KS.mono ?_;rintro e w2 ⟨t,lf,kc,rfl,zN,z5⟩;clear KS;have zQ:=DY (Qb zd z5);have zo:=Qe zq z5;cases hS:ZX l with
 |false=>
  have HE:=DY (RS (form_shape hS));have za:=Qe zo (Qd w2 (.cells #[.int .i64 t, .bool lf, .slice none 0 0, .slice none 0 0] 113));have zp:=DY (Qb zQ (Qd w2 (.cells #[.int .i64 t, .bool lf, .slice none 0 0, .slice none 0 0] 113)));obtain⟨q0,q1,q2,q3⟩:=DW za;have z0:=Qf za 0;have z1:=Qf za 1;have z2:=Qf za 2;have z3:=Qf za 3;clear hS zN zo za z5;go_wp2
  try simp only[Exit.inBlock,Exit.then]
  refine bodyPost_ret (v:= .tuple #[.agg #[.int .i64 0, .bool false, .slice none 0 0, .slice none 0 0], .int .i64 7]) (by rw[results_cell_tmp rfl];go_simp) rfl ?_;exact Y3.bad HE.out.2 7 HE.out.1 (Zf zp _ _ _ _)
 |true=>
  obtain⟨g1,g2,g3,g4,g5,g6,g7,g8⟩:=Ec hS;obtain⟨rfl,rfl,rfl⟩:=zN hS;have z9:=DY (form_zeros hS);have zW:=DY (fun V=>(show Calls prog 160 #[.int .i64 (n1 l:Int), .bool (lfN l)] V fun e w'=>e= .returned (.int .i64 (wB l:Int))/\V=w' from by
   have:=Yn (n1 l) (lfN l) V;rw[g3] at this;exact this))
  have q7:=DY (fun V=>(show Calls prog 161 #[.int .i64 (n1 l:Int), .bool (lfN l)] V fun e w'=>e= .returned (.int .i64 (mB l:Int))/\V=w' from YZ (n1 l) (lfN l) V))
  clear zN hS g3;go_upto_region 4 with fail
  have za:=Qe zo (Qd w2 (.cells #[.int .i64 (n1 l:Int), .bool (lfN l), .slice none 0 0, .slice none 0 0] 113));have zp:=DY (Qb zQ (Qd w2 (.cells #[.int .i64 (n1 l:Int), .bool (lfN l), .slice none 0 0, .slice none 0 0] 113)));have zG:=DY (Vq.new w2 (n1 l) (lfN l) (w2.alloc (.cells #[.int .i64 (n1 l:Int), .bool (lfN l), .slice none 0 0, .slice none 0 0] 113)) w1.heap.size z5.size (heap_alloc_new w2 _));have zA:=DY (z5.trans ((Qd w2 (.cells #[.int .i64 (n1 l:Int), .bool (lfN l), .slice none 0 0, .slice none 0 0] 113)).mono z5.size));clear zo zQ z5;generalize w2.alloc (.cells #[.int .i64 (n1 l:Int), .bool (lfN l), .slice none 0 0, .slice none 0 0] 113)=w3 at*;have qa:=fun m=>(show Calls prog 160 #[.int .i64 (n1 l:Int), .bool (lfN l)] (w3.drewN m) fun e w'=>e= .returned (.int .i64 (wB l:Int))/\w'=w3.drewN m from(zW.out _).mono fun e w' ⟨h1,h2⟩=>⟨h1,h2.symm⟩)
  have qh:=fun m=>(show Calls prog 161 #[.int .i64 (n1 l:Int), .bool (lfN l)] (w3.drewN m) fun e w'=>e= .returned (.int .i64 (mB l:Int))/\w'=w3.drewN m from(q7.out _).mono fun e w' ⟨h1,h2⟩=>⟨h1,h2.symm⟩)
  obtain⟨p0,p1,-,-⟩:=zG.out.cells;have HG:=DY (And.intro g1 (DZ g2 (DZ g4 (DZ g5 (DZ g6 (DZ g7 g8))))));clear zW q7 g1 g2 g4 g5 g6 g7 g8 za;go_quiet (first|(go_at_call 160;exact Calls.quiet_of_same (qa _))|(go_at_call 161;exact Calls.quiet_of_same (qh _)))
  clear qa qh p0 p1;go_upto_region 5 with fail
  obtain⟨w4,zS⟩:=DR (w3.drewN nq);have zh:Below w3.heap.size w3 w4:=by rw[zS];exact Qs (D6 _ _) nq
  have zk:=DY (Qb zp zh);have zt:=DY (zA.out.trans (zh.mono zA.out.size));have zj:=DY (zG.out.keep zh);rw[<-zS];clear zS zh zp zA zG;obtain⟨g1,g2,g4,g5,g6,g7,g8⟩:=HG.out;have qv:wB l*n2 l<=wB l*mB l:=Nat.mul_le_mul_left _ g7;obtain⟨ad,rfl,-⟩:=HR.out.at_ (k:=0) (by rw[Qm];omega);have hq:=HQ.out;rw[g1] at hq;have ze:=HR.out.drop (k:=12+8*n2 l) (cap:=c) (by rw[Qm];omega);rw[if_neg (by omega),Xj] at ze;have ze:=ze.take (8*mB l-8*n2 l);rw[Xi] at ze;have zP:=HR.out.drop (k:=12+8*mB l+wB l*n2 l) (cap:=c) (by rw[Qm];omega);rw[if_neg (by omega),Xj] at zP;have zw:=DY (fun(V:World) (hb:Below w.heap.size w V)=>Rr (some (ad.add (12+8*n2 l))) (c-(12+8*n2 l)) (z1N l) V _ (by unfold z1N;rw[Ni,Nq];simp only[reachBytes];omega) ((show Qh w w.heap.size (some (ad.add (12+8*n2 l))) (bv (z1N l)) from ze).ext hb))
  have zm:=DY (fun(V:World) (hb:Below w.heap.size w V)=>Rr (some (ad.add (12+8*mB l+wB l*n2 l))) (c-(12+8*mB l+wB l*n2 l)) (z2N l) V _ (by unfold z2N;rw[Nq];simp only[reachBytes];omega) ((show Qh w w.heap.size (some (ad.add (12+8*mB l+wB l*n2 l))) (bv (z2N l)) from zP).ext hb))
  rw[show(z1N l).length=(12+8*mB l)-(12+8*n2 l) from by unfold z1N;rw[Ni,Nq];omega] at zw
  rw[show(z2N l).length=244-(12+8*mB l+wB l*n2 l) from by unfold z2N;rw[Nq];omega] at zm
  obtain⟨m8,zu⟩:=DR (8*mB l);obtain⟨k8,zg⟩:=DR (8*n2 l);obtain⟨v,hv⟩:=DR (12+m8);obtain⟨a2,zF⟩:=DR (12+k8);obtain⟨p0,zJ⟩:=DR (wB l*n2 l);obtain⟨b0,zL⟩:=DR (v+p0);rw[<-zu,<-zg,<-hv,<-zF] at zw;rw[<-zu,<-zJ,<-hv,<-zL] at zm;have e1:IntKind.i64.wrap ((mB l:Int)*8)=(m8:Int):=by rw[zu,Nv];omega
  have e2:IntKind.i64.wrap (12+(m8:Int))=(v:Int):=by rw[hv,Nv];omega
  have e3:IntKind.i64.wrap ((n2 l:Int)*8)=(k8:Int):=by rw[zg,Nv];omega
  have e4:IntKind.i64.wrap (12+(k8:Int))=(a2:Int):=by rw[zF,Nv];omega
  have e5:IntKind.i64.wrap ((n2 l:Int)*(wB l:Int))=(p0:Int):=by
   rw[show(n2 l:Int)*(wB l:Int)=(p0:Int) by rw[zJ,LI,Int.mul_comm],Nv];omega
  have e6:IntKind.i64.wrap ((v:Int)+(p0:Int))=(b0:Int):=by rw[zL,Nv];omega
  have i1:a2<=v:=by omega
  have i2:v<=c:=by omega
  have i3:¬c=a2:=by omega
  have i4:¬c=b0:=by omega
  have i5:(a2:Int)<=(v:Int):=by omega
  have i6:(v:Int)<=(c:Int):=by omega
  have i7:b0<=244:=by omega
  have i8:(b0:Int)<=244:=by omega
  have i9:(244:Int)<=(c:Int):=by omega
  have HV:=DY (show v=12+8*mB l by omega);clear zu zg hv zF zJ zL ze zP g1 g2 g4 g5 g6 g7 g8 qv;go_wp2_with fail
  refine(zw.out _ zk).mono ?_;rintro e w5 ⟨rfl,rfl⟩;clear zw;cases hz1:Yh (z1N l) with
  |false=>
   have HE:=DY (RS (show Vk l=false from by rw[z9.out,hz1];rfl));have z4:=Qe zq zt;obtain⟨q0,q1,q2,q3⟩:=DW z4;have z0:=Qf z4 0;have z1:=Qf z4 1;have z2:=Qf z4 2;have z3:=Qf z4 3;clear hz1 z9 z4 zm;go_wp2
   try simp only[Exit.inBlock,Exit.then]
   refine bodyPost_ret (v:= .tuple #[.agg #[.int .i64 0, .bool false, .slice none 0 0, .slice none 0 0], .int .i64 7]) (by rw[results_cell_tmp rfl];go_simp) rfl ?_;exact Y3.bad HE.out.2 7 HE.out.1 (Zf zk _ _ _ _)
  |true=>
   have z9:=DY (show Vk l=Yh (z2N l) from by rw[z9.out,hz1];rfl);clear hz1;go_wp2_with fail
   refine(zm.out _ zk).mono ?_;rintro e w5 ⟨rfl,rfl⟩;clear zm;cases hz2:Yh (z2N l) with
   |false=>
    have HE:=Lib.hid (RS (show Vk l=false from by rw[z9.out,hz2]));have z4:=Qe zq zt;obtain⟨q0,q1,q2,q3⟩:=DW z4;have z0:=Qf z4 0;have z1:=Qf z4 1;have z2:=Qf z4 2;have z3:=Qf z4 3;clear hz2 z9 z4;go_wp2
    try simp only[Exit.inBlock,Exit.then]
    refine bodyPost_ret (v:= .tuple #[.agg #[.int .i64 0, .bool false, .slice none 0 0, .slice none 0 0], .int .i64 7]) (by rw[results_cell_tmp rfl];go_simp) rfl ?_;exact Y3.bad HE.out.2 7 HE.out.1 (Zf zk _ _ _ _)
   |true=>
    have zK:=Lib.hid (show Vk l=true from by rw[z9.out,hz2]);clear hz2 z9 e1 e2 e3 e4 e5 e6 i1 i2 i3 i4 i5 i6 i7 i8 i9;obtain⟨ji,qt,qA,qk,qo⟩:=info_parts Tryz.infoInt;obtain⟨js,qm,qr,qs,qu⟩:=info_parts Tryz.infoStrN;go_wp2_with fail
    go_loopw [56] (fun s56 wr=>∃(k:Nat) (A:Option Addr) (c1:Nat) (A2:Option Addr) (c2:Nat),k<=n2 l/\s56= .int .i64 k/\Hid (Rc l k=0)/\Hid (Vq wr w1.heap.size w2.heap.size (Z5 l k) A c1 A2 c2)/\Hid (Below w1.heap.size w1 wr)) (fun s56 _=>n2 l-(intOf s56).toNat)
    case atStart=>exact⟨0,none,0,none,0,by omega,rfl,DY rfl,zj,zt⟩
    case round=>
     clear zj zt zk;obtain⟨k,A,c1,A2,c2,hk,rfl,zi,HN,HW⟩:=hrel;have HB:=DY (Qb zd HW);have zb:=Qe zq HW;obtain⟨q0,q1,q2,q3⟩:=DW zb;have z0:=Qf zb 0;have z1:=Qf zb 1;have z2:=Qf zb 2;have z3:=Qf zb 3;have qy:=DY zb;clear zb;by_cases hlt:k<n2 l
     ·have hci:(k:Int)<(n2 l:Int):=by omega
      obtain⟨g1,g2,g4,g5,g6,g7,g8⟩:=HG.out;have zs:wB l*k+wB l<=wB l*mB l:=by
       rw[<-Nat.mul_succ];exact Nat.mul_le_mul_left _ (by omega)
      obtain⟨k8,zg⟩:=DR (8*k);obtain⟨a,ha⟩:=DR (12+k8);have f0:IntKind.i64.wrap ((k:Int)*8)=(k8:Int):=by rw[zg,Nv];omega
      have f1:IntKind.i64.wrap (12+(k8:Int))=(a:Int):=by rw[ha,Nv];omega
      have KG:Calls prog 152 #[.slice (some ad) 244 c, .int .i64 (a:Int), .int .i64 8] wr fun e w'=>e= .returned (.tuple #[.int .i64 (ZZ l (12+8*(k:Int)) 8).1, .int .i64 (ZZ l (12+8*(k:Int)) 8).2])/\wr=w':=by
       have:=Uz (some ad) c l (12+8*(k:Int)) 8 wr _ HM (HR.out.ext HB);rw[g1] at this;rw[show(a:Int)=12+8*(k:Int) by omega]
       exact this
      rw[getV_eight l k (by omega)] at KG;have zB:=DY (DZ (show k<=18 by omega) zs);have qw:=DY (show v=12+8*mB l from HV.out);have HM8:=DY g8;clear zg ha g1 g2 g4 g5 g6 g7 g8 zs;by_cases hbig:kN l k<9223372036854775808
      case neg=>
       rw[if_neg hbig] at KG;have z6:kE l k=2:=by unfold kE;rw[if_pos (by omega)]
       have HE:=DY (Eh zK.out hlt zi.out (by rw[z6];decide));rw[z6] at HE;clear z6 hbig;go_wp2_with fail
       refine KG.mono ?_;rintro e w5 ⟨rfl,rfl⟩;clear KG;go_wp2
       try simp only[Exit.inBlock,Exit.then]
       refine bodyPost_ret (v:= .tuple #[.agg #[.int .i64 0, .bool false, .slice none 0 0, .slice none 0 0], .int .i64 2]) (by rw[results_cell_tmp rfl];go_simp) rfl ?_;exact Y3.bad HE.out.2 2 HE.out.1 (Zf HB _ _ _ _)
      rw[if_pos hbig] at KG;have KK:Calls prog 163 #[.slice A k c1, .int .i64 (kN l k:Int)] wr fun e w'=>e= .returned (.int .i64 (kE l k))/\wr=w':=by
       have:=key_any A c1 (Vh l k) (kN l k:Int) wr _ (by rw[Xp];have:=zB.out.1;omega) HN.out.read.ky;rw[Xp,keyL_part] at this;exact this
      have zT:=DY (fun(h1:kE l k≠0)=>Eh zK hlt zi h1);have zD:=DY (fun(h1:kE l k=0)=>errN_next zi h1);obtain⟨p0,p1,p2,p3⟩:=HN.out.cells;rw[show(Z5 l k).keys.length=k from Xp l k] at p2
      rw[show(Z5 l k).vals.length=k from VX l k] at p3
      have qz:=DY (partN_next l k);clear hbig zi;generalize kE l k=ke at*;generalize (kN l k:Int)=x at*;go_wp2_with fail
      refine KG.mono ?_;rintro e w5 ⟨rfl,rfl⟩;clear KG;go_wp2_with fail
      refine KK.mono ?_;rintro e w5 ⟨rfl,rfl⟩;clear KK;by_cases z6:ke=0
      case neg=>
       have HE:=DY (zT.out z6);have d1:(ke !=0)=true:=by rw[bne_iff_ne];exact z6
       clear zT zD z6 p0 p1 p2 p3;go_wp2
       try simp only[Exit.inBlock,Exit.then]
       refine bodyPost_ret (v:= .tuple #[.agg #[.int .i64 0, .bool false, .slice none 0 0, .slice none 0 0], .int .i64 ke]) (by rw[results_cell_tmp rfl];go_simp) rfl ?_;exact Y3.bad HE.out.2 ke HE.out.1 (Zf HB _ _ _ _)
      have qp:=DY (zD.out z6);subst z6;clear zT zD p0 p1 p3 q0 q1 q2 q3 z0 z1 z2 z3;have zC:=HN.out.keep (Qd wr (.cells #[.int .i64 x] 3));have zc:=zC.k;rw[show(Z5 l k).keys.length=k from Xp l k,show(Z5 l k).keys=Vh l k from rfl] at zc
      have qd:w1.heap.size<=(wr.alloc (.cells #[.int .i64 x] 3)).heap.size:=by have:=HW.out.size;simp;omega
      have zy:k<=1000:=by have:=zB.out.1;omega
      go_wp2_with (at_builtin;refine QE _ rfl (.tmp 78) (.tmp 80) _ rfl w1.heap.size 3 ji _ 8 underlying68 qt qA qk qo rfl _ k (iv (Vh l k)) rfl zc _ _ 1 1 [.int .i64 x] rfl rfl (Qh.new wr [.int .i64 x] 3 (0,0)) (by simp[Value.oneCell']) (by simp only[maxLen];omega) (by omega) qd ?_;intro A4 c4 w4 z7 qj zh _;obtain⟨zj,e4,e5,zV⟩:=zC.key x A4 c4 (k+1) (by rw[show(Z5 l k).keys.length=k from Xp l k]) w4 z7 (by rw[show(Z5 l k).keys.length=k from Xp l k];exact qj);rw[show(Z5 l k).keys.length=k from Xp l k] at e4;have zz:=DY ((HW.out.trans ((Qd wr (.cells #[.int .i64 x] 3)).mono HW.out.size)).trans zV);have zr:=DY zj;clear zV zh qj z7 zc zC zj HN p2 qd zy)
      generalize hw5:w4.setCell ⟨w2.heap.size,2,none⟩ (.slice A4 (k+1) c4)=w5 at*;clear hw5 e4 e5;have zI:=DY (Qb zd zz);obtain⟨g1,g2,g4,g5,g6,g7,g8⟩:=HG.out;obtain⟨zy,zs⟩:=zB.out;have hv:=qw.out;have zf:=HR.out.drop (k:=12+8*mB l+wB l*k) (cap:=c) (by rw[Qm];omega);rw[if_neg (by omega),Xj] at zf;have zf:=zf.take (wB l);rw[Xi] at zf;have q8:(vN l k).length=wB l:=by unfold vN;rw[Ni,Nq];omega
      obtain⟨p,hp⟩:=DR (wB l*k);obtain⟨b,hb⟩:=DR (v+p);obtain⟨q,qe⟩:=DR (p+wB l);obtain⟨b2,z5⟩:=DR (v+q);have q9:Qh w w.heap.size (some (ad.add b)) (bv (vN l k)):=by
       rw[show b=12+8*mB l+wB l*k by omega]
       exact zf
      have hcv:=fun(V:World) (hS:Below w.heap.size w V)=>Vb (P:=prog) V 22 9 5 underlying22 underlying5 underlying9 (b2-b) (c-b) (l:=vN l k) (by rw[q8];omega) (q9.ext hS)
      have f2:IntKind.i64.wrap ((k:Int)*(wB l:Int))=(p:Int):=by
       rw[show(k:Int)*(wB l:Int)=(p:Int) by rw[hp,LI,Int.mul_comm],Nv];omega
      have f3:IntKind.i64.wrap ((v:Int)+(p:Int))=(b:Int):=by rw[hb,Nv];omega
      have f5:IntKind.i64.wrap ((k:Int)+1)=(k:Int)+1:=by rw[Nv];omega
      have f6:IntKind.i64.wrap (((k:Int)+1)*(wB l:Int))=(q:Int):=by
       rw[show((k:Int)+1)*(wB l:Int)=(q:Int) by rw[qe,hp,Int.natCast_add,LI,Int.add_mul,Int.one_mul,Int.mul_comm (k:Int)],Nv];omega
      have f7:IntKind.i64.wrap ((v:Int)+(q:Int))=(b2:Int):=by rw[z5,Nv];omega
      have j1:b<=b2:=by omega
      have j2:b2<=c:=by omega
      have j3:¬c=b:=by omega
      have j4:(b:Int)<=(b2:Int):=by omega
      have j5:(b2:Int)<=(c:Int):=by omega
      have zl:Below w5.heap.size w5 w5.drew:=(D6 w5.heap.size w5).drew;have zv:=zr.out.keep (Qb zl (Qd w5.drew (.cells #[.string ⟨(vN l k).toArray⟩] 9)));have zE:=zv.v;rw[show(⟨(Z5 l k).t,(Z5 l k).leaf,(Z5 l k).keys++[x],(Z5 l k).vals⟩:QF).vals=JL l k from rfl,VX] at zE
      obtain⟨-,-,-,q3⟩:=zr.out.cells;obtain⟨-,-,-,q4⟩:=(zr.out.keep zl).cells;obtain⟨-,-,-,q5⟩:=zv.cells;have zH:(⟨(Z5 l k).t,(Z5 l k).leaf,(Z5 l k).keys++[x],(Z5 l k).vals⟩:QF).vals.length=k:=VX l k;rw[zH] at q3 q4 q5;have q6:(w5.alloc (.cells #[.string ⟨(vN l k).toArray⟩] 9)).cell? ⟨w2.heap.size,3,none⟩=some (.slice A2 k c2):=q5;have zn:=DY (zz.out.trans ((Qb zl (Qd w5.drew (.cells #[.string ⟨(vN l k).toArray⟩] 9))).mono zz.out.size));have qf:=DY (Qb zd zn);have qb:=DY (Qb zI zl);have zU:=DY zE;have qx:=DY zv;have zM:=DY zH;have h18':k<=1000:=by omega
      clear zE zv zl zH zf q8 hp hb qe z5 q9 hv zy zs g1 g2 g4 g5 g6 g7 g8 zr;go_upto_region 17 with fail
      refine wp_region_held_drew (S:=(fun V=>Below w.heap.size w V)) (by kernel_rfl) ?_ (fun hHeld=>?_)
      (focus((try dsimp only);(first|exact qb.out|exact zI.out|exact qf.out|exact qi.out|exact zZ.out)))
      refine QD (.f 0 (.f 2 (.f 3 (.f 4 (.f 5 (.f 6 (.f 7 (.f 8 (.f 9 (.f 10 (.f 11 (.f 12 (.f 13 (.f 14 (.f 15 (.t 1 (.o 16 (.r 17 (.f 18 (.o 19 .e)))) 16 (.o 1 (.r 17 (.f 18 (.o 19 .e)))))))))))))))))))) ?_
      repeat' ((first|(refine QL (v:=?_) (hv:=?_) (h:=?_);rotate_left;(focus(first|(refine .inr ⟨by rfl,?_⟩;rfl)|(refine .inl ⟨by rfl,?_⟩;intro w hSw;(try dsimp only at hSw);(try simp only[D8,D4,D5]);go_simp;try(with_reducible rfl)))))|(refine Qr (h:=?_))|((first|((first|refine Qx (h:=fun K hK=>?_)|refine Zt (h:=fun K hK=>?_) (h':=fun K hK=>?_))<;>((try simp only[D8,D4,D5]);go_simp))|(refine Q0 (h:=fun K hK=>?_)))<;>((first|(refine R2 (.tmp 84) (.tmp 99) 111 rfl w1.heap.size 9 js _ 16 underlying111 qm qr qs qu rfl _ k (sv (JL l k)) rfl zU.out _ (some ⟨w5.drew.heap.size,0,none⟩) 1 1 [.string ⟨(vN l k).toArray⟩] rfl rfl (Qh.new w5.drew [.string ⟨(vN l k).toArray⟩] 9 (0,0)) (by simp[Value.oneCell']) (by simp only[maxLen];omega) (by omega) zn.out.size ?_;intro A8 c8 w8 z8 zx;obtain⟨qg,e8,e9,zY⟩:=qx.out.val (vN l k) A8 c8 (k+1) (by rw[zM.out]) w8 z8 (by rw[zM.out];exact zx);rw[zM.out] at e8;have zZ:=DY (Qb zd.out (zn.out.trans (ZF zU.out zn.out.size zx)));have qc:=DY (zn.out.trans zY);have qi:=DY (Qb zd.out qc.out);have qn:Hid (Vq (w8.setCell ⟨w2.heap.size,3,none⟩ (.slice A8 (k+1) c8)) w1.heap.size w2.heap.size (Z5 l (k+1)) A4 c4 A8 c8):=(by rw[qz.out];exact DY qg);clear zY qg zx z8)|skip);refine hK.out _ _ ?_ (fun hHeld=>?_);(focus((try dsimp only);(first|exact qb.out|exact zI.out|exact qf.out|exact qi.out|exact zZ.out)));clear hK K)))<;>(try simp only[Act.put,Nc,Nf,Ng]))
      all_goals (refine Qu ?_;refine wpAnyH_done (by kernel_rfl) ?_ _)
      all_goals
       clear q3 q4 q5 q6 e8 e9;go_wp2;go_roundw
       case rel=>exact⟨k+1,A4,c4,A8,c8,by omega,by go_num,qp,qn,qc⟩
       case measure=>simp[intOf];omega
     ·obtain rfl:k=n2 l:=by omega
      have HE:=DY (read_end zK zi);obtain⟨p0,p1,p2,p3⟩:=HN.out.cells;rw[show(Z5 l (n2 l)).keys.length=n2 l from Xp l (n2 l)] at p2
      rw[show(Z5 l (n2 l)).vals.length=n2 l from VX l (n2 l)] at p3
      replace p0:wr.cell? ⟨w2.heap.size,0,none⟩=some (.int .i64 (n1 l:Int)):=p0;replace p1:wr.cell? ⟨w2.heap.size,1,none⟩=some (.bool (lfN l)):=p1;have qq:=DY (fun x0 x1 x2 x3=>HN.out.set4 qy x0 x1 x2 x3);clear hlt hk;go_wp2
      try simp only[Exit.inBlock,Exit.then]
      refine bodyPost_ret (v:= .tuple #[.agg #[.int .i64 (n1 l:Int), .bool (lfN l), .slice A (n2 l) c1, .slice A2 (n2 l) c2], .int .i64 0]) (by rw[results_cell_tmp rfl];go_simp) rfl ?_;rw[HE.out.1,HE.out.2];exact⟨A,c1,A2,c2,by rw[show(Z5 l (n2 l)).keys.length=n2 l from Xp l (n2 l),show(Z5 l (n2 l)).vals.length=n2 l from VX l (n2 l)];rfl,(qq.out _ _ _ _).mono ql,Zf HB _ _ _ _⟩
end
theorem Zk{w:World}{B1 B2 e1 e2 s1 s2 n1 n2:Nat}{v1 v2:Value}{xs ys:List Value}(h1:w.ownsRow B1 e1 s1 v1 n1 xs)(h2:w.ownsRow B2 e2 s2 v2 n2 ys)(he:e1≠e2):v1.ownBlock=none∨v1.ownBlock≠v2.ownBlock:=by
 rcases h1.2 with⟨rfl,_⟩|⟨g,cap,cur,rfl,_,hg,_⟩
 ·exact .inl rfl
 ·right
  exact Qi hg he h2
def Z3(w:World)(base:Nat)(v:Value)(ls:List (List Int)):Prop:=
 ∃vs:List Value,w.ownsRow base 68 1 v ls.length vs/\vs.length=ls.length/\∀(j:Nat) l,ls[j]?=some l->∃u,vs[j]?=some u/\w.ownsRow base 3 1 u l.length (iv l)
theorem Z3.nil(w:World)(base:Nat):Z3 w base (.slice none 0 0) []:=⟨[],Nb _ _ _ _,rfl,fun j l h=>by simp at h⟩
theorem Z3.keep{w w':World}{base:Nat}{v:Value}{ls:List (List Int)}(h:Z3 w base v ls)(hb:Below w.heap.size w w'):Z3 w' base v ls:=by
 obtain⟨vs,h1,h2,h3⟩:=h;refine⟨vs,QT h1 hb,h2,fun j l hj=>?_⟩
 obtain⟨u,hu,ho⟩:=h3 j l hj;exact⟨u,hu,QT ho hb⟩
theorem Z3.kept{w w':World}{base:Nat}{v:Value}{ls:List (List Int)}(h:Z3 w base v ls){row:Option Nat}(hg:w.grownBy w' row)(hr:∀e,e=68∨e=3->∀(u:Value) n xs,w.ownsRow base e 1 u n xs->u.ownBlock=none∨u.ownBlock≠row):Z3 w' base v ls:=by
 obtain⟨vs,h1,h2,h3⟩:=h;refine⟨vs,h1.kept hg (hr _ (.inl rfl) _ _ _ h1),h2,fun j l hj=>?_⟩
 obtain⟨u,hu,ho⟩:=h3 j l hj;exact⟨u,hu,ho.kept hg (hr _ (.inr rfl) _ _ _ ho)⟩
theorem Z3.mono{w:World}{base base':Nat}{v:Value}{ls:List (List Int)}(h:Z3 w base v ls)(hb:base'<=base):Z3 w base' v ls:=by
 obtain⟨vs,h1,h2,h3⟩:=h;refine⟨vs,Q7 h1 hb,h2,fun j l hj=>?_⟩
 obtain⟨u,hu,ho⟩:=h3 j l hj;exact⟨u,hu,Q7 ho hb⟩
theorem Z3.snoc{w w2:World}{base:Nat}{v v' u:Value}{ls:List (List Int)}{l:List Int}{vs:List Value}(h1:w.ownsRow base 68 1 v ls.length vs)(h2:vs.length=ls.length)
  (h3:∀(j:Nat) l,ls[j]?=some l->∃u,vs[j]?=some u/\w.ownsRow base 3 1 u l.length (iv l)) (hu:w.ownsRow base 3 1 u l.length (iv l))
  (ho:w2.ownsRow base 68 1 v' (ls.length+1) (vs++[u])) (hg:w.grownBy w2 v.ownBlock):Z3 w2 base v' (ls++[l]):=by
 refine⟨vs++[u],by rw[D7];exact ho,by simp[h2],fun j x hj=>?_⟩
 rcases NC j ls.length with z1|z2
 ·rw[LH z1] at hj;obtain⟨u',hu',ho'⟩:=h3 j x hj;exact⟨u',by rw[LH (by omega)];exact hu',ho'.kept hg (Zk ho' h1 (by decide))⟩
 ·rw[LE z2] at hj;have z0:j-ls.length=0:=by
   rcases N6 (j-ls.length) with h|h
   ·exact h
   ·rw[NI (by simp;omega)] at hj;cases hj
  rw[z0] at hj;simp at hj;subst hj;exact⟨u,by rw[LE (by omega),h2,z0];rfl,hu.kept hg (Zk hu h1 (by decide))⟩
theorem Z3.lists{w:World}{base:Nat}{v:Value}{ls:List (List Int)}(h:Z3 w base v ls):∃A c,v= .slice A ls.length c/\Lists w w.heap.size A ls:=by
 obtain⟨vs,h1,h2,h3⟩:=h;obtain⟨A,c,rfl⟩:=QN h1;refine⟨A,c,rfl,fun hn=>?_⟩
 obtain⟨ad,e,z0,hc⟩:=(Qh.of_own h1) (by omega);refine⟨ad,e,z0,fun j l hj=>?_⟩
 obtain⟨u,hu,ho⟩:=h3 j l hj;obtain⟨Aj,cj,rfl⟩:=QN ho;exact⟨Aj,cj,hc j _ hu,Qh.of_own ho⟩
theorem Z3.putObj{W:World}{base:Nat}{v:Value}{ls:List (List Int)}(h:Z3 W base v ls){l:Nat}{o:Obj}(o':Obj)(hl:W.heap[l]?=some o)(ho:o.isCells=false):Z3 (W.putObj l o') base v ls:=by
 obtain⟨vs,h1,h2,h3⟩:=h;refine⟨vs,ownsRow_putObj h1 o' hl ho,h2,fun j x hj=>?_⟩
 obtain⟨u,hu,hw⟩:=h3 j x hj;exact⟨u,hu,ownsRow_putObj hw o' hl ho⟩
theorem own_awayC{w:World}{B e s n:Nat}{v:Value}{xs:List Value}(h:w.ownsRow B e s v n xs){row:Option Nat}(hr:∀r,row=some r->∃o:Obj,w.heap[r]?=some o/\o.isCells=false):v.ownBlock=none∨v.ownBlock≠row:=by
 rcases h.2 with⟨rfl,_⟩|⟨g,cap,cur,rfl,_,hg,_⟩
 ·exact .inl rfl
 ·refine .inr fun e'=>?_
  obtain⟨o,ho,hc⟩:=hr g (by simpa[Value.ownBlock] using e'.symm);rw[hg] at ho;cases ho;cases hc
def BoxLL(bx base:Nat)(ls:List (List Int))(W:World):Prop:=∃v,Boxed W bx 252 v/\Z3 W base v ls
theorem BoxLL.own{β:Type}(bx base:Nat)(f:β->List (List Int)):Own (fun s W=>BoxLL bx base (f s) W):=by
 rintro s W W' row ⟨v,hv,hL⟩ hg hr;refine⟨v,hv.kept hg (fun e'=>?_),hL.kept hg (fun e _ u n xs ho=>own_awayC ho hr)⟩;obtain⟨o,ho,hc⟩:=hr bx e'.symm;rw[show W.heap[bx]?=_ from hv] at ho
 cases ho;cases hc
theorem Xs{F:Fence}{n:Nat}{P:Program}(w:World){o:Oper}{a:Act}{K:Act->World->Prop}{Q:Exit->Act->World->Prop}
  (s x:Operand) (t:TypeId) (hop:o.op=Op.call {callee:=Callee.builtin Builtin.append,args:=#[s,x],argTypes:=#[t,t]})
  (base:Nat) (e:TypeId) (i:TypeInfo) (z:Value) (size bytes:Nat) (h1:P.underlying t=some (.slice e)) (h2:P.info? e=some i) (h3:i.zero=some z) (h4:i.size=size) (h5:i.bytes=bytes) (h6:z.cells.size=size) (h7:0<size)
  (v:Value) (k:Nat) (xs:List Value) (hs:a.eval s=v) (hown:w.ownsRow base e size v k xs) (ad:Addr) (m c:Nat) (news:List Value) (hx:a.eval x= .slice (some ad) m c) (hn:news.length=m*size)
  (hc:∀j u,news[j]?=some u->w.cell? (ad.add j)=some u) (h1c:∀u∈news,u.oneCell'=true) (b1:k+m<=maxLen) (b2:(k+m)*bytes<=140737488355328) (b3:base<=w.heap.size)
  (hK:∀v' w',w'.ownsRow base e size v' (k+m) (xs++news)->w.grownBy w' v.ownBlock->K (a.put o.dst v') w'):Oper.wpIn F n P o a w K Q:=by
 obtain⟨v',w',z0,r1,r2,r3⟩:=run_append_own (P:=P) w base t o.type e i z size bytes h1 h2 h3 h4 h5 h6 h7 v k xs hown ad m c news hn hc h1c b1 b2 b3;unfold Oper.wpIn;refine⟨?_,?_⟩
 ·simp[Oper.about,hop,resolve,Target.leads,Sem.run_pure]
 ·rw[Oper.semAt_plain F _ _ (by rw[hop];intro c hc';cases hc')];simp[execOp,hop,resolve,invoke,builtin,hs,hx,z0,Result.andThen];exact hK _ _ r1 r2
section
theorem Tryz.infoFld:(prog.info? 289).map (fun i=>(i.zero,i.size,i.bytes))=some (some (.agg #[.int .i64 0, .int .i64 0]),2,16):=by kernel_rfl
attribute [local go_sem ↓] Go.wp_at_zero Go.wp_at_succ
theorem put1_any(p:Addr)(r m base c:Nat)(A:Option Addr)(xs:List Value)(lo hi n:Int)(w:World)(hp:w.cell? p=some (.int .i64 n))(hbox:Boxed w r 305 (.slice A m c))(hrow:w.ownsRow base 289 2 (.slice A m c) m xs)
  (hb:base<=w.heap.size) (hr:base<=r) (hm:m<=100):
  Calls prog 182 #[.pointer (some p), .int .i64 lo, .int .i64 hi, .pointer (some ⟨r,0,none⟩)] w fun e w'=>e= .returned (.tuple #[])/\
   ∃A' c',Boxed w' r 305 (.slice A' (m+1) c')/\w'.ownsRow base 289 2 (.slice A' (m+1) c') (m+1) (xs++[.int .i64 4, .int .i64 n])/\
    (∀b,b<w.heap.size->b≠r->some b≠(Value.slice A m c).ownBlock->w'.heap[b]?=w.heap[b]?)/\Below base w w':=by
 obtain⟨i0,z4,za,z6,z7⟩:=info_parts Tryz.infoFld;have hc:=hbox.cell;have hf:=hbox.frozen;have c0:∀o,(w.alloc o).cell? p=some (.int .i64 n):=fun o=>(Lm w o _ (block_lt_of_cell hp)).trans hp
 have c1:∀o,(w.alloc o).cell? ⟨r,0,none⟩=some (.slice A m c):=fun o=>(Lm w o _ (block_lt_of_cell hc)).trans hc
 have z9:=Qh.new w [Value.int .i64 4,Value.int .i64 n] 289 (0,0);go_enter func182,ntmps182
 go_wp2_with fail
 go_region_law ((refine Yp _ rfl (.tmp 7) (.tmp 12) _ rfl base 2 289 i0 _ 16 underlying305 z4 za z6 z7 rfl (by decide) (.slice A m c) m xs rfl (hrow.alloc _) _ _ 1 1 [Value.int .i64 4,Value.int .i64 n] rfl (by simp) z9 (by simp[Value.oneCell']) (by simp only[maxLen];omega) (by omega) (by simp;omega) ?_;intro A' c' w3 z1 z0 hb3;obtain⟨z2,z8,z5,hk3,z3⟩:=hbox.appended (by decide) hrow hb hr z1 (show(w.alloc (.cells #[Value.int .i64 4,Value.int .i64 n] 289)).grownBy w3 (Value.slice A m c).ownBlock from⟨z0.os,z0.tape,z0.output,z0.size,z0.block⟩);have hc1:=z2.cell;have hf1:=z2.frozen))
 all_goals
  refine end0 (by rfl) rfl ⟨rfl,A',c',z8,z5,fun b h1 h2 h3=>?_,z3⟩
  rw[heap_setCell_other w3 ⟨r,0,none⟩ b _ (by simpa using h2)];exact(z0.block b (by simp;omega) h3).trans (Below.heap_alloc w _ b h1)
end
end Go.Proofs.YtijcgllddnpmhaaGreatDoor
