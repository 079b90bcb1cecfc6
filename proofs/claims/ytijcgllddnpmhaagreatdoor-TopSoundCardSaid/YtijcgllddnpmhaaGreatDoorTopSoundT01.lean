/- TopSound: lemmas, part 1. -/
import Derived.Test.YtijcgllddnpmhaaGreatDoorProg
import Derived.Test.YtijcgllddnpmhaaGreatDoorTopSoundT00
import Derived.Deep.RegionHeld3
import Derived.Deep.DrawnRows
set_option maxRecDepth 100000
set_option maxHeartbeats 16000000
set_option linter.all false
namespace Go.Proofs.YtijcgllddnpmhaaGreatDoor
open Go.RowKit Go.Proofs.Tryz
def st1(r:Nat):Nat:=if r % 2=1 then(r / 2)^^^ 2197175160 else r / 2
def stN:Nat->Nat->Nat
 |0,r=>r
 |k+1,r=>st1 (stN k r)
theorem st1_lt(r:Nat)(h:r<4294967296):st1 r<4294967296:=by
 unfold st1
 split
 ·exact Nat.xor_lt_two_pow (n:=32) (by omega) (by omega)
 ·omega
theorem E8(k r:Nat)(h:r<4294967296):stN k r<4294967296:=by
 induction k with
 |zero=>exact h
 |succ k ih=>exact st1_lt _ ih
def tabA:Nat->Array Value
 |0=>Lr 16 (.int .u32 0)
 |k+1=>(tabA k).setIfInBounds k (.int .u32 (stN 4 k:Nat))
theorem tabA_size(k:Nat):(tabA k).size=16:=by
 induction k with
 |zero=>rfl
 |succ k ih=>simp[tabA,ih]
def OZ:Array Value:=#[.int .u32 0, .int .u32 (stN 4 1:Nat), .int .u32 (stN 4 2:Nat), .int .u32 (stN 4 3:Nat), .int .u32 (stN 4 4:Nat), .int .u32 (stN 4 5:Nat), .int .u32 (stN 4 6:Nat), .int .u32 (stN 4 7:Nat),
 .int .u32 (stN 4 8:Nat), .int .u32 (stN 4 9:Nat), .int .u32 (stN 4 10:Nat), .int .u32 (stN 4 11:Nat), .int .u32 (stN 4 12:Nat), .int .u32 (stN 4 13:Nat), .int .u32 (stN 4 14:Nat), .int .u32 (stN 4 15:Nat)]
theorem tabA_16:tabA 16=OZ:=by rfl
theorem tabL_get(i:Nat)(h:i<16):OZ[i]?=some (.int .u32 (stN 4 i:Nat)):=by
 have:i=0∨i=1∨i=2∨i=3∨i=4∨i=5∨i=6∨i=7∨i=8∨i=9∨i=10∨i=11∨i=12∨i=13∨i=14∨i=15:=by omega
 rcases this with h|h|h|h|h|h|h|h|h|h|h|h|h|h|h|h<;>subst h<;>rfl
theorem tabL_one:∀v∈OZ.toList,v.oneCell'=true:=by
 intro v hv;simp only[OZ,Nt,LC,or_false] at hv;rcases hv with h|h|h|h|h|h|h|h|h|h|h|h|h|h|h|h<;>subst h<;>rfl
theorem u32_and1(r:Nat)(h:r<4294967296):bits .and .u32 (r:Int) 1=((r % 2:Nat):Int):=by
 rw[show(1:Int)=((1:Nat):Int) from rfl,u32_and_nat r 1 h (by omega),nat_mask1]
theorem u32_xorp(r:Nat)(h:r<4294967296):bits .xor .u32 ((r:Int)/ 2) 2197175160=((r / 2 ^^^ 2197175160:Nat):Int):=by
 rw[show((r:Int)/ 2)=((r / 2:Nat):Int) from by omega,show(2197175160:Int)=((2197175160:Nat):Int) from rfl,u32_xor_nat _ _ (by omega) (by omega)]
theorem halves_any(w:World):
  Calls prog 273 #[] w fun e w'=>e= .returned (.agg OZ)/\Below w.heap.size w w':=by
 go_enter func273,ntmps273
 go_wp2;go_loopw [5] (fun i wr=>∃k:Nat,k<=16/\i= .int .i64 k/\wr=(w.alloc (.cells (Lr 16 (.int .u32 0)) 425)).alloc (.cells (tabA k) 425))
  (fun i _=>16-(intOf i).toNat)
 case atStart=>exact⟨0,by omega,rfl,rfl⟩
 case round=>
  obtain⟨k,hk,rfl,rfl⟩:=hrel;by_cases hlt:k<16
  ·go_wp2;go_loop [3,10] (fun r j=>∃m:Nat,m<=4/\j= .int .i64 m/\r= .int .u32 (stN m k:Nat)) (fun _ j=>4-(intOf j).toNat)
   case atStart=>exact⟨0,by omega,rfl,rfl⟩
   case round=>
    obtain⟨m,hm,rfl,rfl⟩:=hrel;have hb:=E8 m k (by omega);have H:=u32_and1 _ hb;have Hx:=u32_xorp _ hb;by_cases hlt2:m<4
    ·go_wp2
     ·have h1:(((stN m k:Nat):Int)% 2==1)=true:=by assumption
      go_round
      case rel=>exact⟨m+1,by omega,by go_num,by simp[stN,st1];rw[if_pos (by simp at h1;omega)]⟩
      case measure=>simp[intOf];omega
     ·have h1:(((stN m k:Nat):Int)% 2==1)=false:=by assumption
      go_round
      case rel=>exact⟨m+1,by omega,by go_num,by simp[stN,st1];rw[if_neg (by simp at h1;omega)];simp⟩
      case measure=>simp[intOf];omega
    ·obtain rfl:m=4:=by omega
     clear H Hx;have hsz:=tabA_size k;have hc:∃v,(tabA k)[k]?=some v:=⟨_,Array.getElem?_eq_getElem (by omega)⟩;obtain⟨v0,hv0⟩:=hc;go_wp2;go_roundw
     case rel=>exact⟨k+1,by omega,by go_num,rfl⟩
     case measure=>simp[intOf];omega
  ·obtain rfl:k=16:=by omega
   have z3:=heap_alloc2_new w (.cells (Lr 16 (.int .u32 0)) 425) (.cells OZ 425);have z2:=heap_alloc2_old w (.cells (Lr 16 (.int .u32 0)) 425) (.cells OZ 425);have z0:Below w.heap.size w ((w.alloc (.cells (Lr 16 (.int .u32 0)) 425)).alloc (.cells OZ 425)):=((D6 _ _).alloc (Na _) _).alloc (by simp) _;rw[tabA_16];generalize (w.alloc (.cells (Lr 16 (.int .u32 0)) 425)).alloc (.cells OZ 425)=W2 at*;go_wp2_with (first|(refine wpList_load_row rfl 425 _ rfl (w.heap.size+1) rfl 425 _ _ _ z3 underlying425 rfl (by kernel_rfl) ?_)|(refine Ql rfl 425 _ _ rfl w.heap.size OZ rfl rfl _ 425 z2 (by rfl) (by kernel_rfl) tabL_one ?_;intro W3 h3 z1 hs3))
   exact bodyPost_ret (v:= .agg OZ) (results_cell_row rfl _ _ w.heap.size 425 OZ _ _ rfl h3 underlying425 rfl (by kernel_rfl)) rfl ⟨rfl,z0.grown z1 z0.size (fun k hk=>by injection hk;omega)⟩
theorem RE{α:Type}{P:List α->Prop}(h0:P [])(h1:∀l a,P l->P (l++[a]))(l:List α):P l:=by
 have:∀n,∀l:List α,l.length=n->P l:=by
  intro n;induction n with
  |zero=>intro l hl;rw[NL hl];exact h0
  |succ n ih=>
   intro l hl;have z0:l≠[]:=by intro e;subst e;simp at hl
   rw[<-List.dropLast_concat_getLast z0];exact h1 _ _ (ih _ (by simp[hl]))
 exact this _ l rfl
def Oc(r:Nat)(l:List UInt8):Nat:=l.foldl (fun r b=>stN 8 (r ^^^ b.toNat)) r
theorem ER(r:Nat)(l:List UInt8)(b:UInt8):Oc r (l++[b])=stN 8 (Oc r l ^^^ b.toNat):=by simp[Oc]
theorem Y7(a b:Nat)(ha:a<4294967296)(hb:b<4294967296):a ^^^ b<4294967296:=Nat.xor_lt_two_pow (n:=32) ha hb
theorem DC(r:Nat)(h:r<4294967296)(l:List UInt8):Oc r l<4294967296:=by
 induction l using RE with
 |h0=>exact h
 |h1 l b ih=>rw[ER];exact E8 _ _ (Y7 _ _ ih (by have:=b.toNat_lt;omega))
theorem st1_xor(a b:Nat):st1 (a ^^^ b)=st1 a ^^^ st1 b:=by
 have h1:(a ^^^ b)% 2=(a % 2+b % 2)% 2:=by
  have:=Nat.xor_mod_two_pow (a:=a) (b:=b) (n:=1);simp only[Nat.pow_one] at this;rw[this];rcases N1 a with ha|ha<;>rcases N1 b with hb|hb<;>simp[ha,hb]
 have h2:(a ^^^ b)/ 2=a / 2 ^^^ b / 2:=Nat.xor_div_two;unfold st1;rw[h1,h2];rcases N1 a with ha|ha<;>rcases N1 b with hb|hb<;>simp only[ha,hb]<;>simp
 ·rw[Nat.xor_assoc]
 ·rw[Nat.xor_assoc,Nat.xor_comm (b / 2),<-Nat.xor_assoc]
 ·rw[Nat.xor_assoc,Nat.xor_comm (b / 2),<-Nat.xor_assoc 2197175160,Nat.xor_self,Nat.zero_xor]
theorem st1_split(x:Nat):st1 x=x / 2 ^^^ st1 (x % 2):=by
 unfold st1;rcases N1 x with h|h<;>simp[h]
theorem G8(k x:Nat):stN k x=x / 2 ^ k ^^^ stN k (x % 2 ^ k):=by
 induction k generalizing x with
 |zero=>simp[stN,LT]
 |succ k ih=>
  have e1:x % 2 ^(k+1)/ 2 ^ k=x / 2 ^ k % 2:=by
   rw[Nat.pow_succ,Nat.mod_mul_right_div_self]
  have e2:x % 2 ^(k+1)% 2 ^ k=x % 2 ^ k:=by
   rw[Nat.pow_succ];exact Nat.mod_mul_right_mod _ _ _
  have e3:x / 2 ^ k / 2=x / 2 ^(k+1):=by rw[Nat.div_div_eq_div_mul,Nat.pow_succ]
  show st1 (stN k x)=_ ^^^ st1 (stN k (x % 2 ^(k+1)))
  rw[ih x,ih (x % 2 ^(k+1)),e1,e2,st1_xor,st1_xor,st1_split (x / 2 ^ k),e3,Nat.xor_assoc]
theorem stN_add(a b x:Nat):stN (a+b) x=stN a (stN b x):=by
 induction a with
 |zero=>simp[stN]
 |succ a ih=>rw[Nat.add_right_comm,stN,ih,stN]
theorem st8_two(x:Nat):stN 8 x=(x / 16 ^^^ stN 4 (x % 16))/ 16 ^^^ stN 4 ((x / 16 ^^^ stN 4 (x % 16))% 16):=by
 rw[show 8=4+4 from rfl,stN_add,G8 4 x]
 exact G8 4 _
theorem G6(r:Nat)(h:r<4294967296):bits .and .u32 (r:Int) 15=((r % 16:Nat):Int):=by
 rw[show(15:Int)=((15:Nat):Int) from rfl,u32_and_nat r 15 h (by omega),nat_mask4]
theorem RA(a b:Nat)(ha:a<4294967296)(hb:b<4294967296):bits .xor .u32 (a:Int) (b:Int)=((a ^^^ b:Nat):Int):=u32_xor_nat a b ha hb
theorem u32_xorc(a:Nat)(ha:a<4294967296):bits .xor .u32 (a:Int) 4294967295=((a ^^^ 4294967295:Nat):Int):=u32_xor_nat a 4294967295 ha (by omega)
theorem run_any(r:Nat)(hr:r<4294967296)(A:Option Addr)(n c:Nat)(l:List UInt8)(w:World)(hn:n=l.length)(hm:l.length<=maxLen)(h:Qh w w.heap.size A (bv l)):
  Calls prog 263 #[.int .u32 r, .slice A n c] w fun e w'=>e= .returned (.int .u32 (Oc r l:Nat))/\Below w.heap.size w w':=by
 subst hn;unfold maxLen at hm;go_enter func263,ntmps263
 go_wp2_with fail
 refine(halves_any _).mono ?_;rintro e w1 ⟨rfl,z0⟩;have z3:=heap_alloc_new w1 (.cells (Lr 16 (.int .u32 0)) 425);go_wp2_with (refine Ql rfl 425 _ _ rfl w1.heap.size OZ rfl rfl _ 425 z3 (by rfl) (by kernel_rfl) tabL_one ?_;intro W3 h3 z1 z6)
 have z2:Below w.heap.size w W3:=(z0.alloc (by have:=z0.size;omega) _).grown z1 (by have:=z0.size;simp;omega) (fun k hk=>by injection hk;have:=z0.size;omega);have z5:=h.below z2;clear z1 z6 z3 z0 h;have HT:∀i,i<16->W3.cell? ⟨w1.heap.size,i,none⟩=some (.int .u32 (stN 4 i:Nat)):=fun i hi=>by
  rw[cell_of_row _ _ _ _ _ _ h3];exact tabL_get i hi
 clear h3;go_loop [0,11] (fun x i=>∃k:Nat,k<=l.length/\i= .int .i64 k/\x= .int .u32 (Oc r (l.take k):Nat)) (fun _ i=>l.length-(intOf i).toNat)
 case atStart=>exact⟨0,by omega,rfl,rfl⟩
 case round=>
  obtain⟨k,hk,rfl,rfl⟩:=hrel;by_cases hlt:k<l.length
  ·obtain⟨ad,rfl,_,hc⟩:=z5.byte hlt;have hx:=DC r hr (l.take k);have hb:=l[k].toNat_lt;have HS:=DY (show Oc r (l.take (k+1))=stN 8 (Oc r (l.take k)^^^ l[k].toNat) by rw[Xn l k hlt,ER]);generalize Oc r (l.take k)=x at*;generalize l[k].toNat=bb at*;have e1:=RA x bb hx (by omega);have hy:=Y7 x bb hx (by omega);generalize x ^^^ bb=y at*;have j1:=G6 y hy;have HY:=DY (st8_two y);have hj:y % 16<16:=by omega
   generalize y % 16=j at*;have hc1:=HT j hj;have ht:=E8 4 j (by omega);generalize stN 4 j=t1 at*;have e2:bits .xor .u32 ((y:Int)/ 16) (t1:Int)=((y / 16 ^^^ t1:Nat):Int):=by
    rw[show((y:Int)/ 16)=((y / 16:Nat):Int) from by omega];exact RA _ _ (by omega) ht
   have hz:=Y7 (y / 16) t1 (by omega) ht;generalize y / 16 ^^^ t1=z at*;have j2:=G6 z hz;have hi:z % 16<16:=by omega
   generalize z % 16=i at*;have DU:=HT i hi;have z4:=E8 4 i (by omega);generalize stN 4 i=t2 at*;have e3:bits .xor .u32 ((z:Int)/ 16) (t2:Int)=((z / 16 ^^^ t2:Nat):Int):=by
    rw[show((z:Int)/ 16)=((z / 16:Nat):Int) from by omega];exact RA _ _ (by omega) z4
   clear HT;go_wp2;go_round
   case rel=>exact⟨k+1,by omega,by go_num,by rw[HS.out,HY.out]⟩
   case measure=>simp[intOf];omega
  ·obtain rfl:k=l.length:=by omega
   clear HT;go_wp2;go_ret;exact⟨rfl,z2⟩
def crcM(s:Nat)(l:List UInt8):Nat:=Oc (s ^^^ 4294967295) l ^^^ 4294967295
theorem DD(s:Nat)(h:s<4294967296)(l:List UInt8):crcM s l<4294967296:=Y7 _ _ (DC _ (Y7 _ _ h (by omega)) l) (by omega)
def Gw(r:Nat)(ps:List (List UInt8)):Nat:=ps.foldl Oc r
theorem Kf(r:Nat)(ps:List (List UInt8))(l:List UInt8):Gw r (ps++[l])=Oc (Gw r ps) l:=by simp[Gw]
theorem crcP_lt(r:Nat)(h:r<4294967296)(ps:List (List UInt8)):Gw r ps<4294967296:=by
 induction ps using RE with
 |h0=>exact h
 |h1 l b ih=>rw[Kf];exact DC _ ih _
theorem crcP_join(r:Nat)(ps:List (List UInt8)):Gw r ps=Oc r ps.flatten:=by
 induction ps using RE with
 |h0=>rfl
 |h1 l b ih=>rw[Kf,ih];simp[Oc]
theorem sum_any(A:Option Addr)(n c:Nat)(ps:List (List UInt8))(w:World)(hn:n=ps.length)(hm:ps.length<=maxLen)(h:VP w w.heap.size A ps):
  Calls prog 248 #[.slice A n c] w fun e w'=>e= .returned (.int .i64 (crcM 0 ps.flatten:Nat))/\Below w.heap.size w w':=by
 subst hn;unfold maxLen at hm;go_enter func248,ntmps248
 go_wp2_with fail
 go_loopw [3,8] (fun x i wr=>∃k:Nat,k<=ps.length/\i= .int .i64 k/\x= .int .u32 (Gw 4294967295 (ps.take k):Nat)/\Below w.heap.size w wr) (fun _ i _=>ps.length-(intOf i).toNat)
 case atStart=>exact⟨0,by omega,rfl,rfl,D6 _ _⟩
 case round=>
  obtain⟨k,hk,rfl,rfl,z0⟩:=hrel;have z3:=h.below z0;by_cases hlt:k<ps.length
  ·obtain⟨ad,rfl,hadb,hc⟩:=z3 (by omega);obtain⟨a,cc,hcell,z2,z1⟩:=hc k _ (D1 hlt);have hx:=crcP_lt 4294967295 (by omega) (ps.take k);have HS:=DY (show Gw 4294967295 (ps.take (k+1))=Oc (Gw 4294967295 (ps.take k)) ps[k] by rw[Xn ps k hlt,Kf]);clear hc;have hrd':=z2.more z0.size;generalize Gw 4294967295 (ps.take k)=x at*;generalize ps[k]=l at*;go_wp2_with fail
   refine(run_any x hx a _ cc l _ rfl z1 hrd').mono ?_;rintro e w1 ⟨rfl,z4⟩;go_wp2;go_roundw
   case rel=>exact⟨k+1,by omega,by go_num,by rw[HS.out],z0.trans (z4.mono z0.size)⟩
   case measure=>simp[intOf];omega
  ·obtain rfl:k=ps.length:=by omega
   have hx:=crcP_lt 4294967295 (by omega) (ps.take ps.length);have HX:=DY (show crcM 0 ps.flatten=Gw 4294967295 (ps.take ps.length)^^^ 4294967295 by rw[Nw,crcP_join];rfl);generalize Gw 4294967295 (ps.take ps.length)=x at*;have hc:=u32_xorc x hx;have hcl:=Y7 x 4294967295 hx (by omega);go_wp2;go_ret;exact⟨by simp[HX.out],z0⟩
def le:List UInt8->Nat
 |[]=>0
 |b::r=>b.toNat+256*le r
def leb:Nat->Nat->List UInt8
 |0,_=>[]
 |k+1,n=>UInt8.ofNat (n % 256)::leb k (n / 256)
theorem QM(k:Nat):∀n,(leb k n).length=k:=by
 induction k with
 |zero=>intro n;rfl
 |succ k ih=>intro n;simp[leb,ih]
theorem OI(l:List UInt8):le l<256 ^ l.length:=by
 induction l with
 |nil=>simp[le]
 |cons b l ih=>
  have:=b.toNat_lt;simp only[le,No,Nat.pow_succ];omega
theorem leb_snoc(k:Nat):∀n,leb (k+1) n=leb k n++[UInt8.ofNat (n / 256 ^ k % 256)]:=by
 induction k with
 |zero=>intro n;simp[leb]
 |succ k ih=>
  intro n;rw[leb,ih,leb];simp only[NH];rw[Nat.div_div_eq_div_mul,Nat.pow_succ,LU 256]
def Xa(w:Int):Bool:=decide (w=1∨w=2∨w=4∨w=8)
def XG(n:Nat)(at_ w:Int):Int:=if Xa w=true then(if at_<0∨(n:Int)<at_∨(n:Int)-at_<w then 3 else 0) else 1
def XD(n w:Int):Bool:=decide (0<=n/\(w=1->n<256)/\(w=2->n<65536)/\(w=4->n<4294967296))
theorem Zy(w:Int):Xa w=true↔(w=1∨w=2∨w=4∨w=8):=by simp[Xa]
theorem Vs{n:Nat}{at_ w:Int}(h:XG n at_ w=0):Xa w=true/\0<=at_/\at_+w<=n:=by
 unfold XG at h
 split at h
 ·rename_i hk
  split at h
  ·cases h
  ·exact⟨hk,by omega,by omega⟩
 ·cases h
theorem XB{n:Nat}{at_ w:Int}(hk:Xa w=true)(h0:0<=at_)(h1:at_+w<=n):XG n at_ w=0:=by
 have:=(Zy w).1 hk;unfold XG;rw[if_pos hk,if_neg (by omega)]
theorem Oo(n:Nat)(at_ w:Int):XG n at_ w=0∨XG n at_ w=1∨XG n at_ w=3:=by
 unfold XG
 split
 ·split
  ·exact .inr (.inr rfl)
  ·exact .inl rfl
 ·exact .inr (.inl rfl)
def Xd(l:List UInt8)(at_ w:Int):Nat:=le ((l.drop at_.toNat).take w.toNat)
def ZZ(l:List UInt8)(at_ w:Int):Int×Int:=
 if XG l.length at_ w=0 then(if Xd l at_ w<9223372036854775808 then((Xd l at_ w:Int),0) else(0,2)) else(0,XG l.length at_ w)
def Dh(l:List UInt8)(at_ w n:Int):List UInt8:=l.take at_.toNat++leb w.toNat n.toNat++l.drop (at_+w).toNat
def VL(l:List UInt8)(at_ w n:Int):Int:=if XG l.length at_ w=0 then(if XD n w=true then 0 else 2) else XG l.length at_ w
def UI(l:List UInt8)(at_ w n:Int):List UInt8:=if VL l at_ w n=0 then Dh l at_ w n else []
def Yh(l:List UInt8):Bool:=l.all (·==0)
def Zu:List (Int×Int)->Int
 |[]=>0
 |(w,n)::r=>if Xa w=true then(if XD n w=true then Zu r else 2) else 1
def ZC:List (Int×Int)->List UInt8
 |[]=>[]
 |(w,n)::r=>leb w.toNat n.toNat++ZC r
def YH(l:List (Int×Int)):List UInt8:=if Zu l=0 then ZC l else []
def X7(b:List UInt8):Int->List Int->Int
 |_,[]=>0
 |at_,w::r=>if(ZZ b at_ w).2=0 then X7 b (at_+w) r else(ZZ b at_ w).2
def X8(b:List UInt8):Int->List Int->List Int
 |_,[]=>[]
 |at_,w::r=>(ZZ b at_ w).1::X8 b (at_+w) r
def Rz(b:List UInt8)(at_:Int)(ws:List Int):List Int:=if X7 b at_ ws=0 then X8 b at_ ws else []
def Ow(k:Int):Nat:=if k=1 then 160774 else if k=2 then 121107 else if k=3 then 240779 else if k=4 then 160478 else 0
theorem RN(k:Int):Ow k<4294967296:=by
 unfold Ow
 repeat' split
 all_goals omega
def XV(k n:Int):Bool:=decide (1<=k/\k<=4/\0<=n/\n<14400)
def O0(k:Int)(b:List UInt8):Nat:=crcM 0 b ^^^ Ow k
theorem sumW_lt(k:Int)(b:List UInt8):O0 k b<4294967296:=Y7 _ _ (DD 0 (by omega) b) (RN k)
def VC(k n:Int)(l:List UInt8):List UInt8:=leb 4 n.toNat++(leb 2 k.toNat++([0,0]++(l++List.replicate (244-l.length) 0)))
theorem Kc(k n:Int)(l:List UInt8)(h:l.length<=244):(VC k n l).length=252:=by
 simp[VC,QM];omega
def Ee(k n:Int)(l:List UInt8):List UInt8:=VC k n l++leb 4 (O0 k (VC k n l))
theorem sealB_len(k n:Int)(l:List UInt8)(h:l.length<=244):(Ee k n l).length=256:=by
 unfold Ee;rw[D7,Kc k n l h,QM]
def Yb(k n:Int)(l:List UInt8):Int:=if XV k n=true then(if l.length<=244 then 0 else 2) else 1
def QX(k n:Int)(l:List UInt8):List UInt8:=if Yb k n l=0 then Ee k n l else []
def Kn(b:List UInt8)(k:Int):Bool:=decide (Xd b 252 4=O0 k (b.take 252))
def ZA(b:List UInt8)(k n:Int):Int:=
 if XV k n=false then 1 else if b.length≠256 then 7 else if Kn b k=false then 4 else if(Xd b 0 4:Int)≠n then 5 else if(Xd b 4 2:Int)≠k then 6 else if Xd b 6 2≠0 then 7 else 0
def XM(b:List UInt8)(k n:Int):List UInt8:=if ZA b k n=0 then(b.drop 8).take 244 else []
def JI(l:List UInt8):List UInt8:=List.replicate 8 0++(l++List.replicate (248-l.length) 0)
theorem GZ(l:List UInt8)(h:l.length<=244):(JI l).length=256:=by
 simp[JI];omega
theorem zeroS_eq(l:List UInt8)(h:l.length<=244):JI l=[0,0,0,0]++([0,0]++([0,0]++(l++List.replicate (244-l.length) 0)++[0,0,0,0])):=by
 unfold JI;rw[show 248-l.length=(244-l.length)+4 by omega,<-List.replicate_append_replicate]
 simp[List.replicate]
def Dj(n:Int)(l:List UInt8):List UInt8:=leb 4 n.toNat++([0,0]++([0,0]++(l++List.replicate (244-l.length) 0)++[0,0,0,0]))
def Di(k n:Int)(l:List UInt8):List UInt8:=VC k n l++[0,0,0,0]
theorem put1_len(n:Int)(l:List UInt8)(h:l.length<=244):(Dj n l).length=256:=by
 simp[Dj,QM];omega
theorem RX(k n:Int)(l:List UInt8)(h:l.length<=244):(Di k n l).length=256:=by
 unfold Di;rw[D7,Kc k n l h]
 rfl
theorem El(k n:Int)(l:List UInt8)(h:l.length<=244):(Di k n l).take 252=VC k n l:=List.take_left' (Kc k n l h)
theorem knownK_iff{k n:Int}:XV k n=true↔1<=k/\k<=4/\0<=n/\n<14400:=by simp[XV]
theorem seal_puts{k n:Int}(hk:XV k n=true)(l:List UInt8)(h:l.length<=244):
  (VL (JI l) 0 4 n=0/\UI (JI l) 0 4 n=Dj n l)/\(VL (Dj n l) 4 2 k=0/\UI (Dj n l) 4 2 k=Di k n l)/\
  ∀s:Nat,s<4294967296->VL (Di k n l) 252 4 s=0/\UI (Di k n l) 252 4 s=VC k n l++leb 4 s:=by
 rw[knownK_iff] at hk;have e1:VL (JI l) 0 4 n=0:=by
  unfold VL;rw[GZ l h,if_pos (XB (by decide) (by omega) (by omega)),if_pos];simp[XD];omega
 have e2:VL (Dj n l) 4 2 k=0:=by
  unfold VL;rw[put1_len n l h,if_pos (XB (by decide) (by omega) (by omega)),if_pos];simp[XD];omega
 refine⟨⟨e1,?_⟩,⟨e2,?_⟩,fun s hs=>?_⟩
 ·unfold UI;rw[if_pos e1,zeroS_eq l h];unfold Dh Dj;simp
 ·unfold UI;rw[if_pos e2];unfold Dh Dj Di VC;rw[show(4:Int).toNat=4 from rfl,show((4:Int)+2).toNat=4+2 from rfl,List.take_left' (QM 4 _),<-List.drop_drop,List.drop_left' (QM 4 _)]
  simp
 ·have e3:VL (Di k n l) 252 4 s=0:=by
   unfold VL;rw[RX k n l h,if_pos (XB (by decide) (by omega) (by omega)),if_pos];simp[XD];omega
  refine⟨e3,?_⟩;unfold UI;rw[if_pos e3];unfold Dh;rw[show(252:Int).toNat=252 from rfl,El k n l h,show((252:Int)+4).toNat=256 from rfl,Lh (by rw[RX k n l h];omega),NZ]
  simp
theorem Tryz.infoInt:(prog.info? 3).map (fun i=>(i.zero,i.size,i.bytes))=some (some (.int .i64 0),1,8):=by kernel_rfl
theorem Tryz.infoU8:(prog.info? 5).map (fun i=>(i.zero,i.size,i.bytes))=some (some (.int .u8 0),1,1):=by kernel_rfl
theorem Y5(A:Option Addr)(c:Nat)(l:List UInt8)(w:World)(B:Nat)(hB:B<=w.heap.size)(hm:l.length<=reachBytes)(h:Qh w B A (bv l)):
  Calls prog 25 #[.slice A l.length c] w (XQ 5 (bv l) w):=by
 simp only[reachBytes] at hm;obtain⟨i0,hi,z5,z2,z3⟩:=info_parts Tryz.infoU8;have z1:=LL (e:=5) (size:=1) (base:=w.heap.size) w #[] 0 (Nat.le_refl _) (by simp) (by rfl);cases A with
 |none=>
  have h0:l=[]:=by
   rcases l with _|⟨b,l⟩
   ·rfl
   ·obtain⟨_,h,_⟩:=h (by simp[bv]);cases h
  subst h0;have he:=fun w=>Lib.run_eql_slice_nil (P:=prog) w 22
  go_enter func25,ntmps25
  go_wp2_with fail
  go_ret;exact⟨none,0,rfl,Nb _ _ _ _,D6 _ _⟩
 |some ad=>
  have he:=fun w=>Lib.run_eql_slice_nil (P:=prog) w 22
  go_enter func25,ntmps25
  go_wp2_with (at_builtin;refine QE _ rfl (.tmp 5) (.tmp 6) _ rfl w.heap.size 5 i0 _ 1 underlying22 hi z5 z2 z3 rfl _ 0 [] rfl z1 _ (some ad) l.length c (bv l) rfl (Qm l).symm (h.alloc hB _) (Yz _) (by simp only[maxLen];omega) (by omega) (by simp) ?_;intro A' c' w2 z0 hg2 z4 _)
  simp only[ND,Np] at z0;go_ret;exact⟨A',c',by rw[Qm];simp,by rw[Qm];exact z0,(Qd w _).trans z4⟩
theorem X4(x:Int)(w:World):Calls prog 220 #[.int .i64 x] w fun e w'=>e= .returned (.bool (Xa x))/\w=w':=by
 have hk:=Zy x;have z0:∀b:Bool,Xa x=b->Calls prog 220 #[.int .i64 x] w (fun e w'=>e= .returned (.bool b)/\w=w')->Calls prog 220 #[.int .i64 x] w fun e w'=>e= .returned (.bool (Xa x))/\w=w':=fun b hb h=>by rw[hb];exact h
 by_cases h1:x=1
 ·refine z0 true (hk.2 (.inl h1)) ?_;subst h1;clear z0 hk;go_enter func220,ntmps220
  go_wp2;go_ret;exact⟨rfl,rfl⟩
 ·by_cases h2:x=2
  ·refine z0 true (hk.2 (.inr (.inl h2))) ?_;subst h2;clear z0 hk h1;go_enter func220,ntmps220
   go_wp2;go_ret;exact⟨rfl,rfl⟩
  ·by_cases h3:x=4
   ·refine z0 true (hk.2 (.inr (.inr (.inl h3)))) ?_;subst h3;clear z0 hk h1 h2;go_enter func220,ntmps220
    go_wp2;go_ret;exact⟨rfl,rfl⟩
   ·by_cases h4:x=8
    ·refine z0 true (hk.2 (.inr (.inr (.inr h4)))) ?_;subst h4;clear z0 hk h1 h2 h3;go_enter func220,ntmps220
     go_wp2;go_ret;exact⟨rfl,rfl⟩
    ·refine z0 false (by rw[Bool.eq_false_iff];intro h;have:=hk.1 h;omega) ?_;have e1:(x==1)=false:=by simpa using h1
     have e2:(x==2)=false:=by simpa using h2
     have e3:(x==4)=false:=by simpa using h3
     have e4:(x==8)=false:=by simpa using h4
     clear z0 hk h1 h2 h3 h4;go_enter func220,ntmps220
     go_wp2;go_ret;exact⟨rfl,rfl⟩
theorem Yo(A:Option Addr)(c n:Nat)(a x:Int)(w:World)(hm:n<=reachBytes):
  Calls prog 216 #[.slice A n c, .int .i64 a, .int .i64 x] w fun e w'=>e= .returned (.int .i64 (XG n a x))/\w=w':=by
 simp only[reachBytes] at hm;unfold XG;by_cases hk:Xa x=true
 ·rw[if_pos hk];by_cases h1:a<0
  ·rw[if_pos (.inl h1)];go_enter func216,ntmps216
   go_wp2_with (go_at_call 220;refine(X4 _ _).mono ?_;rintro e w' ⟨rfl,rfl⟩)
   go_ret;exact⟨rfl,rfl⟩
  ·by_cases h2:(n:Int)<a
   ·rw[if_pos (.inr (.inl h2))];go_enter func216,ntmps216
    go_wp2_with (go_at_call 220;refine(X4 _ _).mono ?_;rintro e w' ⟨rfl,rfl⟩)
    go_ret;exact⟨rfl,rfl⟩
   ·by_cases h3:(n:Int)-a<x
    ·rw[if_pos (.inr (.inr h3))];go_enter func216,ntmps216
     go_wp2_with (go_at_call 220;refine(X4 _ _).mono ?_;rintro e w' ⟨rfl,rfl⟩)
     go_ret;exact⟨rfl,rfl⟩
    ·rw[if_neg (by omega)];go_enter func216,ntmps216
     go_wp2_with (go_at_call 220;refine(X4 _ _).mono ?_;rintro e w' ⟨rfl,rfl⟩)
     go_ret;exact⟨rfl,rfl⟩
 ·rw[if_neg hk];have hk':Xa x=false:=by simpa using hk
  clear hk;go_enter func216,ntmps216
  go_wp2_with (go_at_call 220;refine(X4 _ _).mono ?_;rintro e w' ⟨rfl,rfl⟩)
  go_ret;exact⟨rfl,rfl⟩
theorem ON(n x:Int)(w:World):Calls prog 221 #[.int .i64 n, .int .i64 x] w fun e w'=>e= .returned (.bool (XD n x))/\w=w':=by
 unfold XD;by_cases h0:n<0
 ·have hf:decide (0<=n/\(x=1->n<256)/\(x=2->n<65536)/\(x=4->n<4294967296))=false:=decide_eq_false (by omega);rw[hf];clear hf;go_enter func221,ntmps221
  go_wp2;go_ret;exact⟨rfl,rfl⟩
 ·by_cases h1:x=1
  ·subst h1;have hf:decide (0<=n/\((1:Int)=1->n<256)/\((1:Int)=2->n<65536)/\((1:Int)=4->n<4294967296))=decide (n<256):=decide_eq_decide.2 (by omega);rw[hf];clear hf;go_enter func221,ntmps221
   go_wp2;go_ret;exact⟨rfl,rfl⟩
  ·by_cases h2:x=2
   ·subst h2;have hf:decide (0<=n/\((2:Int)=1->n<256)/\((2:Int)=2->n<65536)/\((2:Int)=4->n<4294967296))=decide (n<65536):=decide_eq_decide.2 (by omega);rw[hf];clear hf h1;go_enter func221,ntmps221
    go_wp2;go_ret;exact⟨rfl,rfl⟩
   ·by_cases h3:x=4
    ·subst h3;have hf:decide (0<=n/\((4:Int)=1->n<256)/\((4:Int)=2->n<65536)/\((4:Int)=4->n<4294967296))=decide (n<4294967296):=decide_eq_decide.2 (by omega);rw[hf];clear hf h1 h2;go_enter func221,ntmps221
     go_wp2;go_ret;exact⟨rfl,rfl⟩
    ·have hf:decide (0<=n/\(x=1->n<256)/\(x=2->n<65536)/\(x=4->n<4294967296))=true:=decide_eq_true (by omega);rw[hf];clear hf;have e1:(x==1)=false:=by simpa using h1
     have e2:(x==2)=false:=by simpa using h2
     have e3:(x==4)=false:=by simpa using h3
     clear h1 h2 h3;go_enter func221,ntmps221
     go_wp2;go_ret;exact⟨rfl,rfl⟩
theorem DH(k n:Nat):bv (leb k n)=(List.range k).map fun i=> .int .u8 (((n / 256 ^ i:Nat):Int)% 256):=by
 induction k with
 |zero=>rfl
 |succ k ih=>rw[leb_snoc,Ze,ih,NU,Ns];simp[bv]
def hiA(n:Nat):Nat->Array Value
 |0=>Lr 8 (.int .u8 0)
 |j+1=>(hiA n j).setIfInBounds (4+j) (.int .u8 ((n:Int)/ 2 ^(8*(4+j))% 256))
theorem hiA_size(n j:Nat):(hiA n j).size=8:=by
 induction j with
 |zero=>rfl
 |succ j ih=>simp[hiA,ih]
theorem UC(n k:Nat)(w:World)(t:TypeId)(cs:List Value)(h:cs.take k=bv (leb k n)):Qh (w.alloc (.cells cs.toArray t)) (w.heap.size+1) (some ⟨w.heap.size,0,none⟩) (bv (leb k n)):=by
 rw[<-h];exact(Qh.new w cs t (0,0)).take k
theorem ET(n:Nat)(_hn:n<9223372036854775808)(x:Int)(hx:Xa x=true)(w:World):Calls prog 222 #[.int .i64 n, .int .i64 x] w (XQ 5 (bv (leb x.toNat n)) w):=by
 have hx':=(Zy x).1 hx;clear hx;rcases hx' with rfl|rfl|rfl|rfl
 ·have hE:=UC n 1 w 395 [.int .u8 ((n:Int)% 256), .int .u8 0, .int .u8 0, .int .u8 0, .int .u8 0, .int .u8 0, .int .u8 0, .int .u8 0] (by rw[DH];simp[NU]);go_enter func222,ntmps222
  go_wp2_with fail
  refine(Y5 _ 8 (leb 1 n) _ (w.heap.size+1) (by simp) (by rw[QM];decide) hE).mono ?_;rintro e w1 hG;have z1:=XQ.from (Qd w _) hG
  clear hG hE;obtain⟨A,c,rfl,z0,hb⟩:=z1;go_wp2;go_ret;exact⟨A,c,rfl,z0,hb⟩
 ·have hE:=UC n 2 w 395 [.int .u8 ((n:Int)% 256), .int .u8 ((n:Int)/ 256 % 256), .int .u8 0, .int .u8 0, .int .u8 0, .int .u8 0, .int .u8 0, .int .u8 0] (by rw[DH];simp[NU]);go_enter func222,ntmps222
  go_wp2_with fail
  refine(Y5 _ 8 (leb 2 n) _ (w.heap.size+1) (by simp) (by rw[QM];decide) hE).mono ?_;rintro e w1 hG;have z1:=XQ.from (Qd w _) hG
  clear hG hE;obtain⟨A,c,rfl,z0,hb⟩:=z1;go_wp2;go_ret;exact⟨A,c,rfl,z0,hb⟩
 ·have hE:=UC n 4 w 395 [.int .u8 ((n:Int)% 256), .int .u8 ((n:Int)/ 256 % 256), .int .u8 ((n:Int)/ 65536 % 256), .int .u8 ((n:Int)/ 16777216 % 256), .int .u8 0, .int .u8 0, .int .u8 0, .int .u8 0] (by rw[DH];simp[List.range_succ]);go_enter func222,ntmps222
  go_wp2_with fail
  refine(Y5 _ 8 (leb 4 n) _ (w.heap.size+1) (by simp) (by rw[QM];decide) hE).mono ?_;rintro e w1 hG;have z1:=XQ.from (Qd w _) hG
  clear hG hE;obtain⟨A,c,rfl,z0,hb⟩:=z1;go_wp2;go_ret;exact⟨A,c,rfl,z0,hb⟩
 ·go_enter func222,ntmps222
  go_wp2_with fail
  go_loopw [6] (fun i wr=>∃j:Nat,j<=4/\i= .int .i64 ((4+j:Nat):Int)/\wr=w.alloc (.cells (hiA n j) 395)) (fun i _=>8-(intOf i).toNat)
  case atStart=>exact⟨0,by omega,rfl,rfl⟩
  case round=>
   obtain⟨j,hj,rfl,rfl⟩:=hrel;have z2:=hiA_size n j;by_cases hlt:j<4
   ·obtain⟨v0,hv0⟩:∃v,(hiA n j)[4+j]?=some v:=⟨_,Array.getElem?_eq_getElem (by omega)⟩;go_wp2;go_roundw
    case rel=>exact⟨j+1,by omega,by go_num,rfl⟩
    case measure=>simp[intOf];omega
   ·obtain rfl:j=4:=by omega
    clear z2;rw[show hiA n 4=#[.int .u8 0, .int .u8 0, .int .u8 0, .int .u8 0, .int .u8 ((n:Int)/ 2 ^ 32 % 256), .int .u8 ((n:Int)/ 2 ^ 40 % 256), .int .u8 ((n:Int)/ 2 ^ 48 % 256), .int .u8 ((n:Int)/ 2 ^ 56 % 256)] from rfl]
    have hE:=UC n 8 w 395 [.int .u8 ((n:Int)% 256), .int .u8 ((n:Int)/ 256 % 256), .int .u8 ((n:Int)/ 65536 % 256), .int .u8 ((n:Int)/ 16777216 % 256), .int .u8 ((n:Int)/ 4294967296 % 256), .int .u8 ((n:Int)/ 1099511627776 % 256), .int .u8 ((n:Int)/ 281474976710656 % 256), .int .u8 ((n:Int)/ 72057594037927936 % 256)] (by rw[DH];simp[NU]);go_wp2_with fail
    refine(Y5 _ 8 (leb 8 n) _ (w.heap.size+1) (by simp) (by rw[QM];decide) hE).mono ?_;rintro e w1 hG;have z1:=XQ.from (Qd w _) hG
    clear hG hE;obtain⟨A,c,rfl,z0,hb⟩:=z1;go_wp2;go_ret;exact⟨A,c,rfl,z0,hb⟩
theorem DG{w:World}{B:Nat}{A:Option Addr}{l:List UInt8}(h:Qh w B A (bv l)){k:Nat}(hk:k<l.length):∃ad b,A=some ad/\ad.block<B/\l[k]?=some b/\w.cell? (ad.add k)=some (.int .u8 (b.toNat:Int)):=by
 obtain⟨ad,e,hb,hc⟩:=h.byte hk;exact⟨ad,l[k],e,hb,List.getElem?_eq_getElem hk,hc⟩
theorem le_back(l:List UInt8)(k:Nat)(h:k<l.length):le (l.drop k)=l[k].toNat+256*le (l.drop (k+1)):=by
 rw[NO h];rfl
theorem Uz(A:Option Addr)(c:Nat)(l:List UInt8)(a x:Int)(w:World)(B:Nat)(hm:l.length<=reachBytes)(h:Qh w B A (bv l)):
  Calls prog 152 #[.slice A l.length c, .int .i64 a, .int .i64 x] w fun e w'=>e= .returned (.tuple #[.int .i64 (ZZ l a x).1, .int .i64 (ZZ l a x).2])/\w=w':=by
 have z7:=hm;simp only[reachBytes] at z7;rcases Oo l.length a x with ht|ht|ht
 ·obtain⟨hk,h0,h1⟩:=Vs ht;have hx:=(Zy x).1 hk;obtain⟨z0,rfl⟩:=NB h0;obtain⟨wd,rfl⟩:=NB (show 0<=x by omega);have hV:=DY (show ZZ l z0 wd=(if le ((l.drop z0).take wd)<9223372036854775808 then((le ((l.drop z0).take wd):Int),0) else(0,2)) by
   unfold ZZ Xd;rw[if_pos ht];rfl)
  have z8:wd<=8:=by omega
  have z3:((l.drop z0).take wd).length=wd:=by rw[Ni,Nq];omega
  have z5:∀m,m<wd->∃ad b,A=some ad/\((l.drop z0).take wd)[m]?=some b/\w.cell? (ad.add (z0+m))=some (.int .u8 (b.toNat:Int)):=fun i hi=>by
   obtain⟨ad,b,e,_,hb,hc⟩:=DG h (k:=z0+i) (by omega);exact⟨ad,b,e,by rw[Ls,if_pos hi,List.getElem?_drop,hb],hc⟩
  have HC:=DY z5;have HT:=DY ht;generalize (l.drop z0).take wd=S at*;clear z5 ht hx hk h;go_enter func152,ntmps152
  go_wp2_with fail
  refine(Yo _ _ _ _ _ _ hm).mono ?_;rintro e w' ⟨rfl,rfl⟩;rw[HT.out];clear HT;have hat2:z0+wd<=l.length:=by omega
  go_wp2_with fail
  go_loop [9,10] (fun v i=>∃m:Nat,m<=wd/\i= .int .i64 ((m:Int)-1)/\v= .int .u64 (le (S.drop m):Nat)) (fun _ i=>(intOf i+1).toNat)
  case atStart=>exact⟨wd,by omega,rfl,by rw[Lh (by omega)];rfl⟩
  case round=>
   obtain⟨m,hmw,rfl,rfl⟩:=hrel;by_cases h1:1<=m
   ·obtain⟨k,rfl⟩:∃k,m=k+1:=⟨m-1,by omega⟩
    obtain⟨ad,b,rfl,hb,hc⟩:=HC.out k (by omega);have z2:=OI (S.drop (k+1));rw[Nq,z3] at z2;have z1:le (S.drop (k+1))<72057594037927936:=Nh z2 (D3 (Ld (by omega) (show wd-(k+1)<=7 by omega)) (by decide));have z4:k<S.length:=by omega
    have HL:=Lib.hid (le_back S k z4);have z6:S[k]=b:=by rw[D1 z4] at hb;injection hb
    rw[z6] at HL;have z9:=b.toNat_lt;clear z2 hb z6;generalize le (S.drop (k+1))=x at*;generalize b.toNat=bb at*;have ho:=u64_or_join x bb z1 z9;go_wp2;go_round
    case rel=>exact⟨k,by omega,by go_num,by rw[HL.out];simp⟩
    case measure=>simp[intOf]
   ·obtain rfl:m=0:=by omega
    have z2:=OI S;rw[z3] at z2;have z1:le S<18446744073709551616:=Nh z2 (D3 (Ld (by omega) z8) (by decide));rw[Lw];clear z2 HC;generalize le S=x at*;have HLT:=DY z1;clear z1;by_cases hbig:x<9223372036854775808
    ·rw[if_pos hbig] at hV;have hd:decide ((9223372036854775808:Int)<=(x:Int))=false:=decide_eq_false (by omega);have HW:=DY (show wrap64 (x:Int)=x from IntWalk.wrap64_in _ ⟨by omega,by omega⟩);clear hbig;go_wp2;go_ret2
     rw[hV.out];refine⟨?_,rfl⟩
     show Ending.returned (.tuple #[.int .i64 (wrap64 (x:Int)), .int .i64 0])=_
     rw[HW.out]
    ·rw[if_neg hbig] at hV;have hd:decide ((9223372036854775808:Int)<=(x:Int))=true:=decide_eq_true (by omega);clear hbig;go_wp2;go_ret2
     rw[hV.out];exact⟨rfl,rfl⟩
 ·have hV:=DY (show ZZ l a x=(0,1) by unfold ZZ;rw[if_neg (by omega),ht]);go_enter func152,ntmps152
  go_wp2_with fail
  refine(Yo _ _ _ _ _ _ hm).mono ?_;rintro e w' ⟨rfl,rfl⟩;rw[ht];go_wp2;go_ret2
  rw[hV.out];exact⟨rfl,rfl⟩
 ·have hV:=DY (show ZZ l a x=(0,3) by unfold ZZ;rw[if_neg (by omega),ht]);go_enter func152,ntmps152
  go_wp2_with fail
  refine(Yo _ _ _ _ _ _ hm).mono ?_;rintro e w' ⟨rfl,rfl⟩;rw[ht];go_wp2;go_ret2
  rw[hV.out];exact⟨rfl,rfl⟩
def UV(l:List Int):Bool:=decide (l.length<=960)&&l.all fun n=>decide (0<=n/\n<=3)
def dg(l:List Int)(i:Nat):Nat:=(l.getD i 0).toNat
def four4(a b c d:Nat):Nat:=a+4*b+16*c+64*d
def XO(l:List Int)(j:Nat):Nat:=four4 (dg l (4*j)) (dg l (4*j+1)) (dg l (4*j+2)) (dg l (4*j+3))
def JF(l:List Int):List UInt8:=(List.range 240).map fun j=>UInt8.ofNat (XO l j)
def bitsB(l:List Int):List UInt8:=leb 4 l.length++JF l
def Uj(l:List Int):Int:=if UV l=true then 0 else 1
def Z2(l:List Int):List UInt8:=if UV l=true then bitsB l else []
theorem EV(l:List Int):(JF l).length=240:=by simp[JF]
theorem bitsB_len(l:List Int):(bitsB l).length=244:=by simp[bitsB,EV,QM]
theorem cnts_each{l:List Int}(h:UV l=true):∀n∈l,0<=n/\n<=3:=by
 simp only[UV,Nu,NX,decide_eq_true_eq] at h;exact h.2
theorem dg_lt{l:List Int}(h:∀n∈l,0<=n/\n<=3)(i:Nat):dg l i<4:=by
 unfold dg;rw[D9];rcases NC i l.length with h1|h1
 ·rw[D1 h1];have:=h _ (List.getElem_mem h1);simp only[N8];omega
 ·rw[NI h1];simp
theorem dg_val{l:List Int}(h:∀n∈l,0<=n/\n<=3)(i:Nat)(hi:i<l.length):((dg l i:Nat):Int)=l[i]:=by
 unfold dg;rw[D9,D1 hi];have:=h _ (Nm hi);simp only[N8];omega
theorem byteN_lt{l:List Int}(h:∀n∈l,0<=n/\n<=3)(j:Nat):XO l j<256:=by
 have h0:=dg_lt h (4*j);have h1:=dg_lt h (4*j+1);have h2:=dg_lt h (4*j+2);have h3:=dg_lt h (4*j+3);unfold XO four4;omega
theorem Dy(l:List Int)(k i:Nat):dg (l.take k) i=if i<k then dg l i else 0:=by
 unfold dg;rw[D9,D9,Ls]
 split<;>rfl
theorem dg_snoc(l:List Int)(k:Nat)(hk:k<l.length)(i:Nat):dg (l.take (k+1)) i=if i=k then dg l k else dg (l.take k) i:=by
 rw[Dy,Dy];rcases Nat.lt_trichotomy i k with h|h|h
 ·rw[if_pos (by omega),if_neg (by omega),if_pos h]
 ·subst h;rw[if_pos (by omega),if_pos rfl]
 ·rw[if_neg (by omega),if_neg (by omega),if_neg (by omega)]
theorem byteN_snoc(l:List Int)(k:Nat)(hk:k<l.length):XO (l.take (k+1)) (k / 4)=XO (l.take k) (k / 4)+dg l k*4 ^(k % 4)/\XO (l.take k) (k / 4)<4 ^(k % 4)∨¬(∀n∈l,0<=n/\n<=3):=by
 by_cases hall:∀n∈l,0<=n/\n<=3
 ·left
  have hz:∀i,k<=i->dg (l.take k) i=0:=fun i hi=>by rw[Dy,if_neg (by omega)]
  have z0:=dg_lt (l:=l.take k) (fun n hn=>hall n (Ln hn));have h0:=z0 (4*(k / 4));have h1:=z0 (4*(k / 4)+1);have h2:=z0 (4*(k / 4)+2);unfold XO four4;simp only[dg_snoc l k hk];have hk4:k=4*(k / 4)+k % 4:=by omega
  have hm:k % 4<4:=Nat.mod_lt _ (by omega);generalize k % 4=r at*;generalize k / 4=q at*;obtain rfl|rfl|rfl|rfl:r=0∨r=1∨r=2∨r=3:=by omega
  ·rw[if_pos (by omega),if_neg (by omega),if_neg (by omega),if_neg (by omega),hz (4*q) (by omega),hz (4*q+1) (by omega),hz (4*q+2) (by omega),hz (4*q+3) (by omega)];omega
  ·rw[if_neg (by omega),if_pos (by omega),if_neg (by omega),if_neg (by omega),hz (4*q+1) (by omega),hz (4*q+2) (by omega),hz (4*q+3) (by omega)];omega
  ·rw[if_neg (by omega),if_neg (by omega),if_pos (by omega),if_neg (by omega),hz (4*q+2) (by omega),hz (4*q+3) (by omega)];omega
  ·rw[if_neg (by omega),if_neg (by omega),if_neg (by omega),if_pos (by omega),hz (4*q+3) (by omega)];omega
 ·exact .inr hall
theorem byteN_other(l:List Int)(k:Nat)(hk:k<l.length)(j:Nat)(hj:j≠k / 4):XO (l.take (k+1)) j=XO (l.take k) j:=by
 unfold XO;simp only[dg_snoc l k hk];rw[if_neg (by omega),if_neg (by omega),if_neg (by omega),if_neg (by omega)]
theorem bodyB_snoc(l:List Int)(k:Nat)(hk:k<l.length)(h9:l.length<=960):JF (l.take (k+1))=(JF (l.take k)).set (k / 4) (UInt8.ofNat (XO (l.take (k+1)) (k / 4))):=by
 apply List.ext_getElem?
 intro i;rw[List.getElem?_set];simp only[JF,Lx,NN,LN];by_cases hi:k / 4=i
 ·subst hi;rw[if_pos rfl,if_pos (by omega),List.getElem?_range (by omega)]
  rfl
 ·rw[if_neg hi];rcases NC i 240 with h|h
  ·rw[List.getElem?_range h];simp only[Option.map_some,Li];rw[byteN_other l k hk i (fun e=>hi e.symm)]
  ·rw[NI (by simpa using h)]
   rfl
theorem bodyB_nil:JF []=List.replicate 240 0:=by decide+kernel
def Q9(l:List Int):Nat:=(l.filter (·==0)).length
def Zp(l:List Int):Nat:=l.findIdx (·==0)
theorem zeros_snoc(l:List Int)(k:Nat)(hk:k<l.length):Q9 (l.take (k+1))=Q9 (l.take k)+if l[k]=0 then 1 else 0:=by
 unfold Q9;rw[Nl hk,List.filter_append,D7]
 congr 1
 by_cases h:l[k]=0<;>simp[h]
theorem zeros_le(l:List Int)(k:Nat):Q9 (l.take k)<=k:=by
 unfold Q9;exact D3 (List.length_filter_le _ _) (List.length_take_le _ _)
theorem Rq{l:List Int}{k:Nat}(h:Q9 (l.take k)=0)(j:Nat)(hj:j<k)(hl:j<l.length):l[j]≠0:=by
 intro e;unfold Q9 at h;have h1:(l.take k).filter (·==0)=[]:=NL h;rw[List.filter_eq_nil_iff] at h1;have h2:l[j]∈l.take k:=by
  rw[List.mem_take_iff_getElem];exact⟨j,by omega,rfl⟩
 have:=h1 _ h2;simp[e] at this
theorem first_at{l:List Int}{k:Nat}(hk:k<l.length)(h:∀j,j<k->∀hj:j<l.length,l[j]≠0)(h0:l[k]=0):Zp l=k:=by
 unfold Zp;rw[List.findIdx_eq hk];refine⟨by simp[h0],fun j hj=>?_⟩
 have:=h j hj (by omega);simpa using this
theorem first_none{l:List Int}(h:∀j,∀hj:j<l.length,l[j]≠0):Zp l=l.length:=by
 unfold Zp;rw[List.findIdx_eq_length];intro x hx;obtain⟨j,hj,rfl⟩:=LP hx;simpa using h j hj
end Go.Proofs.YtijcgllddnpmhaaGreatDoor
