/- TopSound: lemmas, part 9. -/
import Derived.Test.YtijcgllddnpmhaaGreatDoorTopSoundT08
import Derived.Laws.StructEq
import Derived.Maps.OwnSet
import Derived.Maps.OwnOps
import Derived.Maps.Views
import Derived.LoopNIn
import Derived.LoopIn
import Derived.ControlIn
import Derived.Maps.Range
import Derived.Maps.RangeWalk
set_option maxRecDepth 100000
set_option maxHeartbeats 16000000
set_option linter.all false
namespace Go.Proofs.YtijcgllddnpmhaaGreatDoor
open Go.RowKit Go.Proofs.Tryz
theorem bad1_any(n:Int)(w:World):Calls prog 252 #[.int .i64 n] w fun e w'=>e= .returned (.bool (!decide (0<=n/\n<=3)))/\w=w':=by
 by_cases h0:n<0
 ·have hv:(!decide (0<=n/\n<=3))=true:=by simp;omega
  have d1:decide (n<0)=true:=decide_eq_true h0;rw[hv];clear hv;go_enter func252,ntmps252
  go_wp2;go_ret;exact⟨rfl,rfl⟩
 ·have d1:decide (n<0)=false:=decide_eq_false h0;by_cases h3:3<n
  ·have hv:(!decide (0<=n/\n<=3))=true:=by simp;omega
   have d2:decide (3<n)=true:=decide_eq_true h3;rw[hv];clear hv;go_enter func252,ntmps252
   go_wp2;go_ret;exact⟨rfl,rfl⟩
  ·have hv:(!decide (0<=n/\n<=3))=false:=by simp;omega
   have d2:decide (3<n)=false:=decide_eq_false h3;rw[hv];clear hv;go_enter func252,ntmps252
   go_wp2;go_ret;exact⟨rfl,rfl⟩
theorem Ga(n:Nat):(madeCells (Value.int .u8 0).cells (n*1)).toList=bv (List.replicate n 0):=by
 rw[NE];apply Lo
 ·simp[madeCells,bv]
 ·intro i h1 h2;simp[madeCells,bv,Value.cells,LT]
theorem copied(l:List Int):(bv (List.replicate 244 0)).take 0++((bv (leb 4 l.length)).take (244-0)++(bv (List.replicate 244 0)).drop (0+(bv (leb 4 l.length)).length))=bv (leb 4 l.length++JF (l.take 0)):=by
 rw[Lv,Np,Ze,Lv,bodyB_nil];rw[NW (by rw[Qm,QM];omega),Xj]
 congr 1
theorem ofInt_u8(a:Nat)(ha:a<256):(BitVec.ofInt 8 (a:Int)).toNat=a:=by
 rw[BitVec.ofInt_natCast,BitVec.toNat_ofNat];exact Nat.mod_eq_of_lt (by omega)
theorem u8_or_n(a b:Nat)(ha:a<256)(hb:b<256):bits .or .u8 (a:Int) (b:Int)=((a|||b:Nat):Int):=by
 have hx:a|||b<2 ^ 8:=Nat.or_lt_two_pow (by omega) (by omega)
 show IntKind.u8.wrap ((BitVec.ofInt 8 (a:Int)|||BitVec.ofInt 8 (b:Int)).toNat:Int)=_
 rw[BitVec.toNat_or,ofInt_u8 a ha,ofInt_u8 b hb,IntKind.wrap_u8];omega
theorem put_bit(old n r:Nat)(hn:n<=3)(hr:r<4)(ho:old<4 ^ r):bits .or .u8 (old:Int) (wrap64 ((n:Int)*2 ^(r*2))% 256)=((old+n*4 ^ r:Nat):Int):=by
 have h1:(2:Int)^(r*2)=((4 ^ r:Nat):Int):=by
  rw[LU,Int.pow_mul];simp
 have h4:4 ^ r<=64:=by
  obtain rfl|rfl|rfl|rfl:r=0∨r=1∨r=2∨r=3:=by omega
  all_goals decide
 have h5:n*4 ^ r<=3*64:=Nat.mul_le_mul hn h4;have h2:wrap64 ((n:Int)*2 ^(r*2))% 256=((n*4 ^ r:Nat):Int):=by
  rw[h1,<-LI];unfold wrap64;omega
 rw[h2,u8_or_n _ _ (by omega) (by omega),Nat.or_comm];have h6:(4:Nat)^ r=2 ^(2*r):=by rw[Nat.pow_mul]
 have h7:=Nat.two_pow_add_eq_or_of_lt (i:=2*r) (b:=old) (by rw[<-h6];exact ho) n;rw[<-h6,LU] at h7;rw[<-h7,Nat.add_comm]
theorem row_set(l:List Int)(k:Nat)(hk:k<l.length)(h9:l.length<=960)(hE:∀n∈l,0<=n/\n<=3):(bv (leb 4 l.length++JF (l.take k))).set (4+k / 4) (.int .u8 (XO (l.take (k+1)) (k / 4):Nat))=bv (leb 4 l.length++JF (l.take (k+1))):=by
 have z0:=byteN_lt (l:=l.take (k+1)) (fun n hn=>hE n (List.mem_of_mem_take hn)) (k / 4);rw[bodyB_snoc l k hk h9];have:(Value.int .u8 (XO (l.take (k+1)) (k / 4):Nat))=(fun b:UInt8=>Value.int .u8 (b.toNat:Int)) (UInt8.ofNat (XO (l.take (k+1)) (k / 4))):=by
  simp only[UInt8.toNat_ofNat',Nat.mod_eq_of_lt z0]
 rw[this];unfold bv;rw[<-List.map_set,List.set_append_right _ _ (by rw[QM];omega),QM,Nat.add_sub_cancel_left]
def allC(l:List Int):Bool:=l.all fun n=>decide (0<=n/\n<=3)
theorem allC_no(l:List Int)(k:Nat)(n:Int)(hb:l[k]?=some n)(hn:decide (0<=n/\n<=3)=false):allC l=false:=by
 unfold allC;rw[LM];exact⟨n,List.mem_of_getElem? hb,by rw[hn];simp⟩
theorem allC_yes(l:List Int)(h:∀j,j<l.length->∀n,l[j]?=some n->decide (0<=n/\n<=3)=true):allC l=true:=by
 unfold allC;rw[NX];intro b hb;obtain⟨j,hj,rfl⟩:=LP hb;exact h j hj _ (D1 hj)
theorem idxI_any(A:Option Addr)(c:Nat)(l:List Int)(w:World)(B:Nat)(hm:l.length*8<=reachBytes)(h:Qh w B A (iv l)):
  Calls prog 147 #[.slice A l.length c, .func (.func 252) #[] #[]] w fun e w'=>∃r:Int,e= .returned (.int .i64 r)/\decide (0<=r)=!allC l/\w=w':=by
 simp only[reachBytes] at hm;go_enter func147,ntmps147
 go_wp2_with fail
 go_loop [8] (fun i=>∃k:Nat,k<=l.length/\i= .int .i64 k/\∀j,j<k->∀n,l[j]?=some n->decide (0<=n/\n<=3)=true) (fun i=>l.length-(intOf i).toNat)
 case atStart=>exact⟨0,by omega,rfl,by intro j hj;omega⟩
 case round=>
  obtain⟨k,hk,rfl,hz⟩:=hrel;have HZ:=DY hz;clear hz;by_cases hlt:k<l.length
  ·obtain⟨ad,rfl,_,hc⟩:=h.num hlt;have HB:=DY (show l[k]?=some l[k] from D1 hlt);have z0:=bad1_any l[k];cases hx:decide (0<=l[k]/\l[k]<=3) with
   |true=>
    rw[hx] at z0;have HX:=Lib.hid hx;clear hx;generalize l[k]=x at*;go_wp2_with fail
    refine(z0 _).mono ?_;rintro e w1 ⟨rfl,rfl⟩;clear z0;go_wp2;go_round
    case rel=>exact⟨k+1,by omega,by go_num,fun j hj n hn=>by
     rcases NC j k with h1|h1
     ·exact HZ j h1 n hn
     ·obtain rfl:j=k:=by omega
      have:=HB.out;rw[this] at hn
      injection hn with hn
      rw[<-hn];exact HX.out⟩
    case measure=>simp[intOf];omega
   |false=>
    rw[hx] at z0;have HA:=Lib.hid (allC_no l k _ HB hx);clear hx;generalize l[k]=x at*;go_wp2_with fail
    refine(z0 _).mono ?_;rintro e w1 ⟨rfl,rfl⟩;clear z0;go_wp2;go_ret;exact⟨k,rfl,by rw[HA.out];simp,rfl⟩
  ·obtain rfl:k=l.length:=by omega
   have HA:=DY (allC_yes l (fun j hj=>HZ.out j hj));go_wp2;go_ret;exact⟨-1,rfl,by rw[HA.out];rfl,rfl⟩
theorem cfi_any(A:Option Addr)(c:Nat)(l:List Int)(w:World)(B:Nat)(hm:l.length*8<=reachBytes)(h:Qh w B A (iv l)):
  Calls prog 81 #[.slice A l.length c, .func (.func 252) #[] #[]] w fun e w'=>e= .returned (.bool (!allC l))/\w=w':=by
 go_enter func81,ntmps81
 go_wp2_with fail
 refine(idxI_any A c l w B hm h).mono ?_;rintro e w1 ⟨r,rfl,hr,rfl⟩;have HR:=DY hr;clear hr;go_wp2;go_ret;exact⟨RR HR,rfl⟩
theorem Ki(A:Option Addr)(c:Nat)(l:List Int)(w:World)(B:Nat)(hm:l.length*8<=reachBytes)(h:Qh w B A (iv l)):
  Calls prog 194 #[.slice A l.length c] w fun e w'=>e= .returned (.tuple #[.int .i64 (Q9 l), .int .i64 (Zp l)])/\w=w':=by
 simp only[reachBytes] at hm;go_enter func194,ntmps194
 go_wp2_with fail
 go_loop [4,5,12] (fun z f i=>∃(k:Nat) (x:Nat),k<=l.length/\i= .int .i64 k/\z= .int .i64 (Q9 (l.take k))/\f= .int .i64 x/\(Q9 (l.take k)=0/\x=l.length∨0<Q9 (l.take k)/\x=Zp l)) (fun _ _ i=>l.length-(intOf i).toNat)
 case atStart=>exact⟨0,l.length,by omega,rfl,rfl,rfl, .inl ⟨rfl,rfl⟩⟩
 case round=>
  obtain⟨k,x,hk,rfl,rfl,rfl,hx⟩:=hrel;by_cases hlt:k<l.length
  ·obtain⟨ad,rfl,_,hc⟩:=h.num hlt;have z1:=zeros_snoc l k hlt;have hzl:=zeros_le l k;by_cases h0:l[k]=0
   ·rw[if_pos h0] at z1;have z4:Q9 (l.take k)=0->Zp l=k:=fun hz=>first_at hlt (fun j hj hl=>Rq hz j hj hl) h0
    have z0:=Lib.hid z1;have z3:=Lib.hid z4;have HX:=Lib.hid hx;rw[h0] at hc;clear z1 z4 hx h0;by_cases hz:Q9 (l.take k)=0
    ·have d1:((Q9 (l.take k):Int)==0)=true:=by simp[hz]
     have HZ:=DY hz;clear hz;generalize Q9 (l.take k)=z at*;go_wp2;refine⟨⟨k+1,k,by omega,by go_num,by rw[z0.out];go_num,rfl, .inr ⟨by rw[z0.out];omega,(z3.out HZ).symm⟩⟩,by simp[intOf];omega⟩
    ·have d1:((Q9 (l.take k):Int)==0)=false:=by simp;omega
     have z2:x=Zp l:=by rcases HX.out with h|h;exact absurd h.1 hz;exact h.2
     have z5:=DY z2;clear z2 HX z3;generalize Q9 (l.take k)=z at*;go_wp2;refine⟨⟨k+1,x,by omega,by go_num,by rw[z0.out];go_num,rfl, .inr ⟨by rw[z0.out];omega,z5.out⟩⟩,by simp[intOf];omega⟩
   ·rw[if_neg h0,Nat.add_zero] at z1;have d1:(l[k] !=0)=true:=by simpa using h0
    have z0:=Lib.hid z1;have HX:=Lib.hid hx;clear z1 hx h0;generalize l[k]=y at*;go_wp2;go_round
    case rel=>exact⟨k+1,x,by omega,by go_num,by rw[z0.out];rfl,rfl,by rw[z0.out];exact HX.out⟩
    case measure=>simp[intOf];omega
  ·obtain rfl:k=l.length:=by omega
   rw[Nw] at hx;have z2:x=Zp l:=by
    rcases hx with h|h
    ·rw[h.2];refine(first_none fun j hj=>?_).symm;refine Rq (k:=l.length) ?_ j hj hj;rw[Nw];exact h.1
    ·exact h.2
   subst z2;have HT:=DY (show l.take l.length=l from Nw);clear hx;go_wp2;go_ret2
   exact⟨by first|rfl|(rw[HT.out];rfl),rfl⟩
theorem bput_any(A:Option Addr)(c:Nat)(l:List Int)(w:World)(hm:l.length*8<=reachBytes)(h:Qh w w.heap.size A (iv l)):
  Calls prog 227 #[.slice A l.length c] w (Xl 5 (bv (Z2 l)) (Uj l) w):=by
 have mm:=hm;simp only[reachBytes] at mm;by_cases h9:960<l.length
 ·have hv:Z2 l=[]/\Uj l=1:=by
   have:UV l=false:=by simp[UV];omega
   exact⟨by unfold Z2;rw[this];rfl,by unfold Uj;rw[this];rfl⟩
  rw[hv.1,hv.2];have d1:decide ((960:Int)<(l.length:Int))=true:=decide_eq_true (by omega);clear hv;go_enter func227,ntmps227
  go_wp2;go_ret2
  exact⟨none,0,rfl,Nb _ _ _ _,D6 _ _⟩
 have d1:decide ((960:Int)<(l.length:Int))=false:=decide_eq_false (by omega);have z5:=cfi_any A c l w _ hm h;cases ha:allC l with
 |false=>
  have hv:Z2 l=[]/\Uj l=1:=by
   have:UV l=false:=by unfold UV;rw[show(l.all fun n=>decide (0<=n/\n<=3))=false from ha];simp
   exact⟨by unfold Z2;rw[this];rfl,by unfold Uj;rw[this];rfl⟩
  rw[hv.1,hv.2];rw[ha] at z5;clear hv ha;go_enter func227,ntmps227
  go_wp2_with fail
  refine z5.mono ?_;rintro e w1 ⟨rfl,rfl⟩;go_wp2;go_ret2
  exact⟨none,0,rfl,Nb _ _ _ _,D6 _ _⟩
 |true=>
  have z7:UV l=true:=by unfold UV;rw[show(l.all fun n=>decide (0<=n/\n<=3))=true from ha];simp;omega
  have hv:Z2 l=bitsB l/\Uj l=0:=⟨by unfold Z2;rw[z7];rfl,by unfold Uj;rw[z7];rfl⟩
  rw[hv.1,hv.2];rw[ha] at z5;obtain⟨i0',hi,zr,zo,zp⟩:=info_parts Tryz.infoU8;have ze:Zu [(4,(l.length:Int))]=0/\YH [(4,(l.length:Int))]=leb 4 l.length:=by
   have:Zu [(4,(l.length:Int))]=0:=by simp[Zu,Xa,XD];omega
   exact⟨this,by unfold YH;rw[if_pos this];simp[ZC]⟩
  have za:=fun A W h=>J0 A 1 [(4,(l.length:Int))] W (by simp[reachBytes]) (by intro p hp;simp at hp;subst hp;simp[Lit.wf,IntKind.min,IntKind.max,IntKind.bits,IntKind.signed];omega) h
  rw[ze.1,ze.2] at za;have hR:YC (w.alloc (.cells #[.int .i64 4, .int .i64 l.length] 289)) (w.heap.size+1) (some ⟨w.heap.size,0,none⟩) [(4,(l.length:Int))]:=fun _=>by
   refine⟨_,0,rfl,N7 _,fun j p hj=>?_⟩
   have zi:=(List.getElem?_eq_some_iff.1 hj).1;simp at zi;subst zi;rw[Nk,Nk];simp at hj;subst hj;exact⟨rfl,rfl⟩
  clear hv ha ze;go_enter func227,ntmps227
  go_wp2_with fail
  refine z5.mono ?_;rintro e w1 ⟨rfl,rfl⟩;clear z5;go_wp2_with fail
  refine(za _ _ (hR.more (by simp))).mono ?_;rintro e w2 ⟨A2,c2,rfl,z0,zg⟩;rw[Qm,QM] at z0;rw[Qm,QM];have z4:=Qb (Qd w _) zg;have zk:=Qh.of_own z0;have zm:=DY (show(bv (leb 4 l.length)).length=4 by rw[Qm,QM]);have HM:=DY (show(madeCells (Value.int .u8 0).cells (244*1)).toList=bv (List.replicate 244 0) from Ga 244);have zv:(prog.info? 5).map (·.size)=some 1:=by kernel_rfl
  have HX:=DY (copied l);have hown0:True:=trivial;clear za z0 zg hR;go_wp2_with (first|(at_make;refine wpList_make_full _ rfl (.const _) (.const _) _ rfl w.heap.size 5 i0' _ 1 underlying22 hi zr zo .i64 .i64 244 244 244 rfl rfl (by omega) (by omega) (by rw[zp];omega) (by simp only[maxLen];omega) z4.size ?_;intro w3 z2 zd;rw[HM.out] at z2;have zh:Below w.heap.size w w3:=z4.grown zd z4.size (fun k hk=>by cases hk);have zj:=zk.grown zd (Na _) (fun k hk=>by cases hk))|(with_reducible refine Rs rfl (.tmp 25) (.tmp 26) 22 22 rfl 5 underlying22 zv w.heap.size w2.heap.size 244 244 (bv (List.replicate 244 0)) z2 0 (by omega) (some ⟨w2.heap.size,0,none⟩) 244 244 rfl rfl (fun _=>rfl) w2.heap.size A2 4 c2 (bv (leb 4 l.length)) rfl zm.out.symm zj (Yz _) zh.size ?_;intro w4 z3 hg4 zt hs4))
  rw[HX.out] at z3;have zb:w.heap.size<=w2.heap.size:=z4.size;clear zk zj z2 zd HM HX zm z4;have zq:=zh.trans zt;have hE:=cnts_each z7;go_loopw [30] (fun i wr=>∃k:Nat,k<=l.length/\i= .int .i64 k/\wr.ownsRow w.heap.size 5 1 (.slice (some ⟨w2.heap.size,0,none⟩) 244 244) 244 (bv (leb 4 l.length++JF (l.take k)))/\Below w.heap.size w wr) (fun i _=>l.length-(intOf i).toNat)
  case atStart=>exact⟨0,by omega,rfl,z3,zq⟩
  case round=>
   obtain⟨k,hk,rfl,z1,z6⟩:=hrel;by_cases hlt:k<l.length
   ·obtain⟨ad,rfl,_,hc⟩:=(h.below z6).num hlt;have hn:=hE l[k] (Nm hlt);have hkq:k / 4<240:=by omega
    have hold:wr.cell? ⟨w2.heap.size,4+k / 4,none⟩=some (.int .u8 (XO (l.take k) (k / 4):Nat)):=by
     rw[z1.cellAt _ (by omega),bv_get _ _ (by rw[D7,QM,EV];omega)];have z8:=byteN_lt (l:=l.take k) (fun n hn=>hE n (List.mem_of_mem_take hn)) (k / 4);rw[List.getElem_append_right (by rw[QM];omega)];simp only[QM,Nat.add_sub_cancel_left,JF,List.getElem_map,List.getElem_range,UInt8.toNat_ofNat',Nat.mod_eq_of_lt z8]
    have hfz:=z1.frozenAt (4+k / 4);have zf:=dg_val hE k hlt;generalize l[k]=x at*;obtain⟨n,rfl⟩:=NB hn.1;have zn:dg l k=n:=by omega
    clear zf;have j0:(0:Int)<=4+(k:Int)/ 4:=by omega
    have j1:(4:Int)+(k:Int)/ 4<244:=by omega
    have j2:((4:Int)+(k:Int)/ 4).toNat=4+k / 4:=by omega
    have zc:XO (l.take (k+1)) (k / 4)=XO (l.take k) (k / 4)+n*4 ^(k % 4)/\XO (l.take k) (k / 4)<4 ^(k % 4):=by
     rcases byteN_snoc l k hlt with hh|hh
     ·rw[zn] at hh;exact hh
     ·exact absurd hE hh
    have PB:=Lib.hid (put_bit (XO (l.take k) (k / 4)) n (k % 4) (by omega) (Nat.mod_lt _ (by omega)) zc.2);have zs:=Lib.hid zc.1;obtain⟨z9,hgr⟩:=z1.stored (4+k / 4) (.int .u8 (XO (l.take (k+1)) (k / 4):Nat));rw[row_set l k hlt (by omega) hE] at z9;have zu:=Lib.hid z9;have zw:=zb;clear zc z9 zn;generalize XO (l.take k) (k / 4)=old at*;go_wp2_with fail
    go_region
    go_wp2;rw[PB.out,<-zs.out];refine⟨⟨k+1,by omega,by go_num,zu.out,(z6.setCell (p:=⟨w2.heap.size,4+k / 4,none⟩) zw _).drew⟩,by simp[intOf];omega⟩
   ·obtain rfl:k=l.length:=by omega
    rw[Nw] at z1;have zl:=Lib.hid (bitsB_len l);go_wp2;go_ret2
    exact⟨some ⟨w2.heap.size,0,none⟩,244,by rw[Qm,zl.out];rfl,by rw[Qm,zl.out];exact z1,z6⟩
section
attribute [local go_sem ↓] Go.wp_at_zero Go.wp_at_succ
theorem rd_one(p:XX)(s:List UInt8):∃n,rdN [p] s=[n]:=by
 have h:=Vv [p] s
 match rdN [p] s,h with
 |[n],_=>exact⟨n,rfl⟩
theorem Gi{p:XX}(h:Ja p):∀q∈[p],Ja q:=by
 intro q hq;simp at hq;subst hq;exact h
def rd1(p:XX)(s:List UInt8):Int:=(rdN [p] s).headD 0
theorem YD(s:List UInt8)(w:World)(hs:s.length<=reachBytes):Calls prog 87 #[.string ⟨s.toArray⟩] w fun e w'=>e= .returned (.tuple #[.int .i64 (rd1 QB s), .int .i64 (rdE [QB] s)])/\Below w.heap.size w w':=by
 obtain⟨n,hn⟩:=rd_one QB s;have h1:rd1 QB s=n:=by unfold rd1;rw[hn];rfl
 rw[h1];clear h1;have HN:=DY hn;clear hn;have z1:=fun(A:Option Addr) (w1:World) hr=>VV A 1 [QB] s w1 (by simp) (by simp) hs (Gi (Kv _ _ (by omega) (by omega))) hr
 rw[HN.out] at z1;generalize rdE [QB] s=re at*;go_enter func87,ntmps87
 go_wp2_with fail
 refine(root_any _).mono ?_;rintro e w1 ⟨A,rfl,hr,z3⟩;go_wp2_with fail
 refine(z1 A w1 hr).mono ?_;rintro e w2 ⟨A2,c2,rfl,z0,z2⟩;have hB:=Qb z3 z2;obtain⟨g,rfl,hc⟩:=Z9 z0 (by simp[iv]);rw[show(iv [n]).length=1 from rfl]
 have hc0:=hc 0 _ rfl;clear z0 z3 z2 hr hc z1;go_wp2;go_ret2
 exact⟨rfl,hB⟩
theorem Ru(s:List UInt8)(w:World)(hs:s.length<=reachBytes):Calls prog 196 #[.string ⟨s.toArray⟩] w fun e w'=>e= .returned (.tuple #[.int .i64 (rd1 countP s), .int .i64 (rdE [countP] s)])/\Below w.heap.size w w':=by
 obtain⟨n,hn⟩:=rd_one countP s;have h1:rd1 countP s=n:=by unfold rd1;rw[hn];rfl
 rw[h1];clear h1;have HN:=DY hn;clear hn;have z1:=fun(A:Option Addr) (w1:World) hr=>VV A 1 [countP] s w1 (by simp) (by simp) hs (Gi (Kv _ _ (by omega) (by omega))) hr
 rw[HN.out] at z1;generalize rdE [countP] s=re at*;go_enter func196,ntmps196
 go_wp2_with fail
 refine(ES _).mono ?_;rintro e w1 ⟨A,rfl,hr,z3⟩;go_wp2_with fail
 refine(z1 A w1 hr).mono ?_;rintro e w2 ⟨A2,c2,rfl,z0,z2⟩;have hB:=Qb z3 z2;obtain⟨g,rfl,hc⟩:=Z9 z0 (by simp[iv]);rw[show(iv [n]).length=1 from rfl]
 have hc0:=hc 0 _ rfl;clear z0 z3 z2 hr hc z1;go_wp2;go_ret2
 exact⟨rfl,hB⟩
theorem rd_slot(s:List UInt8):∃a b c,rdN Q5 s=[a,b,c]:=by
 have h:=Vv Q5 s
 match rdN Q5 s,h with
 |[a,b,c],_=>exact⟨a,b,c,rfl⟩
theorem VF(s:List UInt8)(w:World)(hs:s.length<=reachBytes):Calls prog 71 #[.string ⟨s.toArray⟩] w fun e w'=>e= .returned (.tuple #[.agg (iv (rdN Q5 s)).toArray, .int .i64 (rdE Q5 s)])/\Below w.heap.size w w':=by
 obtain⟨a,b,c,hn⟩:=rd_slot s;have z6:=fun(A:Option Addr) (w1:World) hr=>VV A 3 Q5 s w1 (by simp[Q5]) (by simp[Q5]) hs (fun p hp=>RG 0 0 0 (p,0) (by simp[YV];simp[Q5] at hp;rcases hp with rfl|rfl<;>simp)) hr
 rw[hn] at z6 ⊢;clear hn;generalize rdE Q5 s=re at*;go_enter func71,ntmps71
 go_wp2_with fail
 refine(slot_any _).mono ?_;rintro e w1 ⟨A,rfl,hr,z8⟩;go_wp2_with fail
 refine(z6 A w1 hr).mono ?_;rintro e w2 ⟨A2,c2,rfl,z4,z7⟩;have hB:=Qb z8 z7;obtain⟨g,rfl,hc⟩:=Z9 z4 (by simp[iv]);rw[show(iv [a,b,c]).length=3 from rfl]
 have hc0:=hc 0 _ rfl;have hc1:=hc 1 _ rfl;have DU:=hc 2 _ rfl;clear z4 z8 z7 hr hc z6;go_wp2_with fail
 have z3:w2.heap[w.heap.size]?=some (.cells #[.int .i64 0, .int .i64 0, .int .i64 0] 148):=by
  rw[hB.block w.heap.size (by simp)];exact heap_alloc_new w _
 have hk:∀i,i<3->w2.cell? ⟨w.heap.size,i,none⟩=some (.int .i64 0):=fun i hi=>by
  unfold World.cell?;rw[z3];have:i=0∨i=1∨i=2:=by omega
  rcases this with rfl|rfl|rfl<;>rfl
 have z5:∀i,w2.frozen? ⟨w.heap.size,i,none⟩=false:=fun i=>by
  unfold World.frozen?;rw[z3];simp
 have k0:=hk 0 (by omega);have k1:=hk 1 (by omega);have k2:=hk 2 (by omega);have z0:=z5 0;have z1:=z5 1;have z2:=z5 2;have z9:Below w.heap.size w w2:=(Qd w _).trans (hB.mono (by simp));clear hk z5 z3 hB;generalize hf:w.heap.size=f at*;have HF:=DY hf;clear hf;go_region
 go_wp2
 try simp only[Exit.inBlock,Exit.then]
 refine bodyPost_ret (v:= .tuple #[.agg #[.int .i64 a, .int .i64 b, .int .i64 c], .int .i64 re]) (by rw[results_cell_tmp rfl];go_simp) rfl ?_;exact⟨rfl,by rw[HF.out];exact Below.drew (((z9.setCell (p:=⟨f,0,none⟩) (Na f) _).setCell (p:=⟨f,1,none⟩) (Na f) _).setCell (p:=⟨f,2,none⟩) (Na f) _)⟩
theorem RV(s:List UInt8):∃a b c d,rdN QU s=[a,b,c,d]:=by
 have h:=Vv QU s
 match rdN QU s,h with
 |[a,b,c,d],_=>exact⟨a,b,c,d,rfl⟩
theorem JB(s:List UInt8)(w:World)(hs:s.length<=reachBytes):Calls prog 89 #[.string ⟨s.toArray⟩] w fun e w'=>e= .returned (.tuple #[.agg (iv (rdN QU s)).toArray, .int .i64 (rdE QU s)])/\Below w.heap.size w w':=by
 obtain⟨a,b,c,d,hn⟩:=RV s;have z7:=fun(A:Option Addr) (w1:World) hr=>VV A 4 QU s w1 (by simp[QU]) (by simp[QU]) hs (fun p hp=>EP 0 0 0 0 (p,0) (by simp[GQ];simp[QU] at hp;rcases hp with rfl|rfl|rfl<;>simp)) hr
 rw[hn] at z7 ⊢;clear hn;generalize rdE QU s=re at*;go_enter func89,ntmps89
 go_wp2_with fail
 refine(Kw _).mono ?_;rintro e w1 ⟨A,rfl,hr,z9⟩;go_wp2_with fail
 refine(z7 A w1 hr).mono ?_;rintro e w2 ⟨A2,c2,rfl,z5,z8⟩;have hB:=Qb z9 z8;obtain⟨g,rfl,hc⟩:=Z9 z5 (by simp[iv]);rw[show(iv [a,b,c,d]).length=4 from rfl]
 have hc0:=hc 0 _ rfl;have hc1:=hc 1 _ rfl;have DU:=hc 2 _ rfl;have DV:=hc 3 _ rfl;clear z5 z9 z8 hr hc z7;go_wp2_with fail
 have z4:w2.heap[w.heap.size]?=some (.cells #[.int .i64 0, .int .i64 0, .int .i64 0, .int .i64 0] 196):=by
  rw[hB.block w.heap.size (by simp)];exact heap_alloc_new w _
 have hk:∀i,i<4->w2.cell? ⟨w.heap.size,i,none⟩=some (.int .i64 0):=fun i hi=>by
  unfold World.cell?;rw[z4];have:i=0∨i=1∨i=2∨i=3:=by omega
  rcases this with rfl|rfl|rfl|rfl<;>rfl
 have z6:∀i,w2.frozen? ⟨w.heap.size,i,none⟩=false:=fun i=>by
  unfold World.frozen?;rw[z4];simp
 have k0:=hk 0 (by omega);have k1:=hk 1 (by omega);have k2:=hk 2 (by omega);have k3:=hk 3 (by omega);have z0:=z6 0;have z1:=z6 1;have z2:=z6 2;have z3:=z6 3;have za:Below w.heap.size w w2:=(Qd w _).trans (hB.mono (by simp));clear hk z6 z4 hB;generalize hf:w.heap.size=f at*;have HF:=DY hf;clear hf;go_region
 go_wp2
 try simp only[Exit.inBlock,Exit.then]
 refine bodyPost_ret (v:= .tuple #[.agg #[.int .i64 a, .int .i64 b, .int .i64 c, .int .i64 d], .int .i64 re]) (by rw[results_cell_tmp rfl];go_simp) rfl ?_;exact⟨rfl,by rw[HF.out];exact Below.drew ((((za.setCell (p:=⟨f,0,none⟩) (Na f) _).setCell (p:=⟨f,1,none⟩) (Na f) _).setCell (p:=⟨f,2,none⟩) (Na f) _).setCell (p:=⟨f,3,none⟩) (Na f) _)⟩
theorem Ol(s:List UInt8)(w:World)(hs:s.length<=reachBytes):Calls prog 217 #[.string ⟨s.toArray⟩] w fun e w'=>e= .returned (.tuple #[.int .i64 (rd1 XU s / 16777216), .int .i64 (rd1 XU s % 16777216), .int .i64 (rdE [XU] s)])/\Below w.heap.size w w':=by
 obtain⟨n,hn⟩:=rd_one XU s;have h1:rd1 XU s=n:=by unfold rd1;rw[hn];rfl
 rw[h1];clear h1;have HN:=DY hn;clear hn;have z1:=fun(A:Option Addr) (w1:World) hr=>VV A 1 [XU] s w1 (by simp) (by simp) hs (Gi (good8 _ _ (by omega))) hr
 rw[HN.out] at z1;generalize rdE [XU] s=re at*;have hm:=i64_mask n 24 (by omega) 16777215 rfl;go_enter func217,ntmps217
 go_wp2_with fail
 refine(Kt _).mono ?_;rintro e w1 ⟨A,rfl,hr,z3⟩;go_wp2_with fail
 refine(z1 A w1 hr).mono ?_;rintro e w2 ⟨A2,c2,rfl,z0,z2⟩;have hB:=Qb z3 z2;obtain⟨g,rfl,hc⟩:=Z9 z0 (by simp[iv]);rw[show(iv [n]).length=1 from rfl]
 have hc0:=hc 0 _ rfl;clear z0 z3 z2 hr hc z1;go_wp2_with fail
 go_quiet (fail)
 go_wp2_with fail
 refine bodyPost_ret (results_tmp3 rfl _ _ _) rfl ⟨rfl,Qs hB _⟩
end
def JY(s:List UInt8)(i:Nat):Nat:=(s.getD (4+i / 4) 0).toNat / 4 ^(i % 4)% 4
def Vw(s:List UInt8):Int:=(ZZ s 0 4).1
def Dx(s:List UInt8)(k:Nat):List Int:=(List.range k).map fun i=>((JY s i:Nat):Int)
def restB(s:List UInt8):Bool:=(List.range 960).all fun i=>decide ((i:Int)<Vw s)||decide (JY s i=0)
def Ui(s:List UInt8):Int:=if s.length=244 then(if Vw s<=960 then(if restB s=true then 0 else 7) else 7) else 7
def GV(s:List UInt8):List Int:=if Ui s=0 then Dx s (Vw s).toNat else []
theorem digs_len(s:List UInt8)(k:Nat):(Dx s k).length=k:=by simp[Dx]
theorem digs_snoc(s:List UInt8)(k:Nat):Dx s (k+1)=Dx s k++[((JY s k:Nat):Int)]:=by simp[Dx,NU]
theorem rdDig_lt(s:List UInt8)(i:Nat):JY s i<4:=Nat.mod_lt _ (by omega)
theorem rdCnt_nn(s:List UInt8):0<=Vw s/\Vw s<4294967296:=by
 unfold Vw ZZ
 split
 ·rename_i h
  obtain⟨_,_,h2⟩:=Vs h;have h1:=OI ((s.drop (0:Int).toNat).take (4:Int).toNat);have h4:((s.drop (0:Int).toNat).take (4:Int).toNat).length=4:=by
   rw[Ni,Nq];simp;omega
  rw[h4] at h1;have h5:Xd s 0 4<4294967296:=h1
  split
  ·constructor<;>simp<;>omega
  ·simp
 ·simp
theorem rest_iff(s:List UInt8):restB s=true↔∀i:Nat,i<960->Vw s<=(i:Int)->JY s i=0:=by
 unfold restB;rw[NX];constructor
 ·intro h i hi hc;have:=h i (List.mem_range.2 hi);rw[Bool.or_eq_true,decide_eq_true_eq,decide_eq_true_eq] at this;rcases this with h1|h1
  ·omega
  ·exact h1
 ·intro h i hi;rw[LR] at hi;rw[Bool.or_eq_true,decide_eq_true_eq,decide_eq_true_eq];rcases(show(i:Int)<Vw s∨Vw s<=(i:Int) by omega) with h1|h1
  ·exact .inl h1
  ·exact .inr (h i hi h1)
theorem and_dig(bn r d:Nat)(hb:bn<256)(hd:d=bn / 4 ^ r % 4):bits .and .i64 (wrap64 ((bn:Int)/ 2 ^(r*2))) 3=(d:Int):=by
 have h1:(2:Int)^(r*2)=((4 ^ r:Nat):Int):=by
  rw[LU,Int.pow_mul];simp
 have h2:bn / 4 ^ r<=bn:=Nat.div_le_self _ _;have h3:(bn:Int)/((4 ^ r:Nat):Int)=((bn / 4 ^ r:Nat):Int):=by rw[Int.natCast_ediv]
 rw[h1,h3,hd];generalize bn / 4 ^ r=q at*;have h4:wrap64 (q:Int)=(q:Int):=by unfold wrap64;omega
 rw[h4,i64_mask _ 2 (by omega) 3 rfl];omega
theorem bread_any(A:Option Addr)(c:Nat)(s:List UInt8)(w:World)(hm:s.length<=reachBytes)(h:Qh w w.heap.size A (bv s)):
  Calls prog 241 #[.slice A s.length c] w (Xl 3 (iv (GV s)) (Ui s) w):=by
 have z4:Ui s=7->GV s=[]:=fun e=>by unfold GV;rw[e,if_neg (by decide)]
 by_cases hl:s.length=244
 case neg=>
  have hE:Ui s=7:=by unfold Ui;rw[if_neg hl]
  rw[z4 hE,hE];simp only[reachBytes] at hm;have d1:((s.length:Int) !=244)=true:=by simp;omega
  clear z4 hE;go_enter func241,ntmps241
  go_wp2;go_ret2
  exact⟨none,0,rfl,Nb _ _ _ _,D6 _ _⟩
 have hg:=Uz A c s 0 4 w _ hm h;have zg:(ZZ s 0 4).2=0:=by
  have ht:XG s.length 0 4=0:=XB rfl (by omega) (by omega);have zi:Xd s 0 4<4294967296:=by
   unfold Xd;have:=OI ((s.drop (0:Int).toNat).take (4:Int).toNat);have h4:((s.drop (0:Int).toNat).take (4:Int).toNat).length=4:=by simp[hl]
   rw[h4] at this;exact this
  unfold ZZ;rw[if_pos ht,if_pos (by omega)]
 rw[zg,show(ZZ s 0 4).1=Vw s from rfl] at hg
 obtain⟨n0,n1⟩:=rdCnt_nn s;rw[hl] at hg;have d1:((s.length:Int) !=244)=false:=by simp[hl]
 by_cases hc:Vw s<=960
 case neg=>
  have hE:Ui s=7:=by unfold Ui;rw[if_pos hl,if_neg hc]
  rw[z4 hE,hE];have d2:decide (960<Vw s)=true:=decide_eq_true (by omega);rw[hl];clear z4 hE zg hl d1;generalize Vw s=n at*;go_enter func241,ntmps241
  go_wp2_with fail
  refine hg.mono ?_;rintro e w1 ⟨rfl,rfl⟩;go_wp2;go_ret2
  exact⟨none,0,rfl,Nb _ _ _ _,D6 _ _⟩
 obtain⟨i0',hi,zs,zo,zp⟩:=info_parts Tryz.infoInt;have hE:Ui s=if restB s=true then 0 else 7:=by unfold Ui;rw[if_pos hl,if_pos hc]
 have HE:=DY hE;have z9:=DY z4;have HL:Ui s=0->GV s=Dx s (Vw s).toNat:=fun e=>by unfold GV;rw[if_pos e]
 have HL:=DY HL;have HR:=DY (rest_iff s);have zu:=DY (fun i=>rdDig_lt s i);have za:∀i b,s[4+i / 4]?=some b->JY s i=b.toNat / 4 ^(i % 4)% 4:=fun i b hb=>by
  unfold JY;rw[D9,hb];rfl
 have za:=DY za;obtain⟨m,zj⟩:=NB n0;rw[zj] at hg hc HR HL n1;have d2:decide (960<(m:Int))=false:=decide_eq_false (by omega);rw[hl];clear z4 hE zg d1 zj n0;go_enter func241,ntmps241
 go_wp2_with fail
 refine hg.mono ?_;rintro e w1 ⟨rfl,rfl⟩;clear hg;go_wp2_with fail
 go_loopw [6,19] (fun v i wr=>∃k:Nat,k<=960/\i= .int .i64 k/\wr.ownsRow w.heap.size 3 1 v (min k m) (iv (Dx s (min k m)))/\(∀j:Nat,j<k->m<=j->JY s j=0)/\Below w.heap.size w wr) (fun _ i _=>960-(intOf i).toNat)
 case atStart=>exact⟨0,by omega,rfl,by rw[Nat.zero_min];exact Nb _ _ _ _,by intro j hj;omega,D6 _ _⟩
 case round=>
  obtain⟨k,hk,rfl,z2,hz,z3⟩:=hrel;have HZ:=DY hz;clear hz;obtain⟨Ao,co,rfl⟩:=QN z2;by_cases zi:k<960
  ·have d3:decide ((k:Int)<960)=true:=decide_eq_true (by omega);obtain⟨ad,b,rfl,_,hb,hcell⟩:=DG (h.below z3) (k:=4+k / 4) (by omega);have z6:=za.out k b hb;have hd4:=zu.out k;have hm4:k % 4<4:=Nat.mod_lt _ (by omega);have z7:=DY (and_dig b.toNat (k % 4) (JY s k) (UInt8.toNat_lt b) z6);have zw:=DY (digs_snoc s k);clear hb z6;have hbl:b.toNat<256:=UInt8.toNat_lt b;have zc:=HZ.out;generalize hdd:JY s k=d at*;have zl:=DY hdd;clear hdd zc;generalize b.toNat=bn at*;have j0:(0:Int)<=4+(k:Int)/ 4:=by omega
   have j1:(4:Int)+(k:Int)/ 4<244:=by omega
   have j2:((4:Int)+(k:Int)/ 4).toNat=4+k / 4:=by omega
   by_cases hkm:k<m
   ·have d4:decide ((k:Int)<(m:Int))=true:=decide_eq_true (by omega);go_upto_region 11 with fail
    rw[z7.out];generalize wrap64 ((bn:Int)/ 2 ^(k % 4*2))=y1;generalize (bn:Int)/ 2 ^(k % 4*2)=y2;have z0:min k m=k:=by omega
    have z1:min (k+1) m=k+1:=by omega
    rw[z0] at z2 ⊢;have zb:=Lib.hid z1;have zr:=Qh.new wr (iv [(d:Int)]) 3 (0,0);have zv:=z3.size;clear z0 z1;go_wp2_with (at_builtin;refine QE _ rfl (.tmp 38) (.tmp 40) _ rfl w.heap.size 3 i0' _ 8 underlying68 hi zs zo zp rfl _ k (iv (Dx s k)) rfl (z2.alloc _) _ _ 1 1 (iv [(d:Int)]) rfl rfl zr (Jo _) (by simp only[maxLen];omega) (by omega) (by simp;omega) ?_;intro A' c' w3 z5 hg3 zq _)
    go_roundw
    case rel=>exact⟨k+1,by omega,by go_num,by rw[zb.out,zw.out,Xb];exact z5,fun j hj hmj=>by omega,(z3.alloc zv _).trans zq⟩
    case measure=>simp[intOf];omega
   ·have d4:decide ((k:Int)<(m:Int))=false:=decide_eq_false (by omega);have z0:min k m=m:=by omega
    have z1:min (k+1) m=m:=by omega
    go_upto_region 11 with fail
    rw[z7.out];generalize wrap64 ((bn:Int)/ 2 ^(k % 4*2))=y1;generalize (bn:Int)/ 2 ^(k % 4*2)=y2;rw[z0] at z2 ⊢;have zb:=Lib.hid z1;clear z0 z1;by_cases hd0:d=0
    ·have zd:∀j:Nat,j<k+1->m<=j->JY s j=0:=fun j hj hmj=>by
      rcases Nat.lt_or_ge j k with h1|h1
      ·exact HZ j h1 hmj
      ·obtain rfl:j=k:=by omega
       rw[zl.out,hd0]
     have zd:=DY zd;subst hd0;rw[show((0:Nat):Int)=0 from rfl]
     go_wp2;go_roundw
     case rel=>exact⟨k+1,by omega,by go_num,by rw[zb.out];exact z2,zd.out,z3⟩
     case measure=>simp[intOf];omega
    ·have d5:((d:Int) !=0)=true:=by simp;omega
     have ze:Ui s=7:=by
      rw[HE.out,if_neg];intro hh;exact hd0 (by rw[<-zl.out];exact HR.out.1 hh k zi (by omega))
     have zn:=DY ze;have zk:=DY (z9.out ze);clear ze hd0;go_wp2;go_ret2
     exact⟨none,0,by rw[zn.out,zk.out];rfl,by rw[zk.out];exact Nb _ _ _ _,z3⟩
  ·obtain rfl:k=960:=by omega
   have z0:min 960 m=m:=by omega
   rw[z0] at z2 ⊢;have z8:Ui s=0:=by
    rw[HE.out,if_pos];exact HR.out.2 (fun i hi hc=>HZ.out i hi (by omega))
   have zf:=HL.out z8;rw[N3] at zf;have zt:=DY z8;have zh:=DY zf;have zm:=DY (digs_len s m);clear z8 zf z0;go_wp2;go_ret2
   exact⟨Ao,co,by rw[zt.out,zh.out,QK,zm.out];rfl,by rw[zh.out,QK,zm.out];exact z2,z3⟩
abbrev S3:=Int×Int×Int
def RH(p:S3):List (XX×Int):=YV p.1 p.2.1 p.2.2
def V5(p:S3):List UInt8:=VY (RH p)
def VJ(p:S3):Bool:=JG (RH p)
theorem O3(p:S3):(V5 p).length=16:=by
 simp[V5,RH,YV,VY,QM]
theorem slot_val(p:S3):XF (RH p)=if VJ p=true then V5 p else []:=rfl
def Vu(l:List S3):Bool:=decide (l.length<=15)&&l.all VJ
def RF(l:List S3):List UInt8:=leb 4 l.length++(l.flatMap V5++List.replicate (240-16*l.length) 0)
def YO(l:List S3):List UInt8:=if Vu l=true then RF l else []
def JR(l:List S3):Int:=if Vu l=true then 0 else 1
theorem flatS_len(l:List S3):(l.flatMap V5).length=16*l.length:=by
 induction l with
 |nil=>rfl
 |cons p l ih=>rw[List.flatMap_cons,D7,ih,O3,No];omega
theorem slotsB_len(l:List S3)(h:l.length<=15):(RF l).length=244:=by
 unfold RF;rw[D7,D7,QM,flatS_len,Nn];omega
theorem flatS_snoc(l:List S3)(k:Nat)(h:k<l.length):(l.take (k+1)).flatMap V5=(l.take k).flatMap V5++V5 l[k]:=by
 rw[Xn l k h,List.flatMap_append];simp
def XN(s:List UInt8):Nat:=Xd s 0 4
def sAt(s:List UInt8)(i:Nat):List UInt8:=(s.drop (4+16*i)).take 16
def UT(s:List UInt8):Bool:=decide (s.length=244)&&(decide (XN s<=15)&&Yh (s.drop (4+16*XN s)))
def Uf(s:List UInt8)(k:Nat):Bool:=(List.range k).all fun i=>decide (rdE Q5 (sAt s i)=0)
def tri(s:List UInt8)(i:Nat):S3:=((rdN Q5 (sAt s i)).getD 0 0,(rdN Q5 (sAt s i)).getD 1 0,(rdN Q5 (sAt s i)).getD 2 0)
theorem tri_eq(s:List UInt8)(i:Nat):rdN Q5 (sAt s i)=[(tri s i).1,(tri s i).2.1,(tri s i).2.2]:=by
 obtain⟨a,b,c,h⟩:=rd_slot (sAt s i);unfold tri;rw[h]
 rfl
def UP(s:List UInt8)(k:Nat):List S3:=(List.range k).map (tri s)
def JU(s:List UInt8):Int:=if UT s=true then(if Uf s (XN s)=true then 0 else 2) else 7
def O6(s:List UInt8):List S3:=if JU s=0 then UP s (XN s) else []
theorem trisS_snoc(s:List UInt8)(k:Nat):UP s (k+1)=UP s k++[tri s k]:=by
 unfold UP;rw[NU,List.map_append]
 rfl
theorem trisS_len(s:List UInt8)(k:Nat):(UP s k).length=k:=by simp[UP]
theorem goodS_snoc(s:List UInt8)(k:Nat):Uf s (k+1)=(Uf s k&&decide (rdE Q5 (sAt s k)=0)):=by
 unfold Uf;rw[NU,List.all_append];simp
theorem goodS_no{s:List UInt8}{k n:Nat}(hk:k<n)(h:rdE Q5 (sAt s k)≠0):Uf s n=false:=by
 unfold Uf;rw[LM];exact⟨k,by simpa using hk,by simpa using h⟩
theorem sAt_len(s:List UInt8)(i:Nat)(hl:s.length=244)(hi:i<15):(sAt s i).length=16:=by
 unfold sAt;rw[Ni,Nq];omega
theorem rd16(s:List UInt8)(h:s.length=16):rdE Q5 s=0∨rdE Q5 s=2:=by
 unfold rdE
 split
 ·split
  ·exact .inl rfl
  ·exact .inr rfl
 ·rename_i hh
  simp[Q5,wds,h] at hh
structure Qv where
 key:Int
 val:List UInt8
 at_:Int
def GT(n:Int):List UInt8:=XF [(countP,n)]
def Yq(c:List Int):Int:=if∀x∈c,0<=x/\x<=2147483647 then 0 else 2
def Ea(n:Int):Int:=if n<3 then n else 3
def Yr(c:List Int):List Int:=c.map Ea
def UK(c:List Int):Nat->List Qv
 |0=>[]
 |k+1=>if 3<=c.getD k 0 then UK c k++[⟨k,GT (c.getD k 0),0⟩] else UK c k
def ZR(l:List Int)(j:Nat):List Int:=(l.drop (960*j)).take 960
def chunksTo(l:List Int)(k:Nat):List (List Int):=(List.range k).map (ZR l)
def parts(n:Nat):Nat:=(n+959)/ 960
def OQ(l:List Int):List (List Int):=chunksTo l (parts l.length)
def Y8(c:List Int):List (List Int):=if Yq c=0 then OQ (Yr c) else []
def VH(c:List Int):List Qv:=if Yq c=0 then UK c c.length else []
theorem splitE_bad{c:List Int}{k:Nat}(h:k<c.length)(hb:c.getD k 0<0∨2147483647<c.getD k 0):Yq c=2/\Y8 c=[]/\VH c=[]:=by
 have h1:Yq c=2:=by
  unfold Yq;rw[if_neg];intro ha;have:=ha (c.getD k 0) (by rw[D9,D1 h];exact Nm h);omega
 refine⟨h1,?_,?_⟩
 ·unfold Y8;rw[h1];rfl
 ·unfold VH;rw[h1];rfl
theorem splitE_ok{c:List Int}(h:∀k,k<c.length->0<=c.getD k 0/\c.getD k 0<=2147483647):Yq c=0/\Y8 c=OQ (Yr c)/\VH c=UK c c.length:=by
 have h1:Yq c=0:=by
  unfold Yq;rw[if_pos];intro x hx;obtain⟨i,hi,rfl⟩:=List.mem_iff_getElem.1 hx;have:=h i hi;rw[D9,D1 hi] at this;exact this
 refine⟨h1,?_,?_⟩
 ·unfold Y8;rw[if_pos h1]
 ·unfold VH;rw[if_pos h1]
theorem Gy(l:List Int)(j:Nat):(ZR l j).length=min 960 (l.length-960*j):=by simp[ZR]
theorem smalls_len(c:List Int):(Yr c).length=c.length:=by simp[Yr]
theorem smalls_next(c:List Int){k:Nat}(h:k<c.length):Yr (c.take (k+1))=Yr (c.take k)++[Ea (c.getD k 0)]:=by
 unfold Yr;rw[List.take_add_one,D1 h,Ns,D9,D1 h]
 rfl
theorem parts_at{n k:Nat}(h:k<parts n):960*k<n:=by unfold parts at h;omega
def Vz(o:List Int):Nat->List Int
 |0=>[]
 |k+1=>if o.getD k 0=3 then Vz o k++[(k:Int)] else Vz o k
def Z6(o:List Int):List Int:=Vz o o.length
theorem O8(o:List Int)(x:Int):∀k,x∈Vz o k↔∃p:Nat,p<k/\x=(p:Int)/\o.getD p 0=3
 |0=>⟨(fun h=>by cases h),(fun⟨p,h,_⟩=>absurd h (by omega))⟩
 |k+1=>by
  unfold Vz;have ih:=O8 o x k
  split
  ·rename_i h3
   rw[NY,ih];constructor
   ·rintro(⟨p,h1,h2⟩|h)
    ·exact⟨p,by omega,h2⟩
    ·simp at h;exact⟨k,by omega,h,h3⟩
   ·rintro⟨p,h1,h2,h4⟩;rcases NC p k with h5|h5
    ·exact .inl ⟨p,h5,h2,h4⟩
    ·obtain rfl:p=k:=by omega
     exact .inr (by simp[h2])
  ·rename_i h3
   rw[ih];constructor
   ·rintro⟨p,h1,h2⟩;exact⟨p,by omega,h2⟩
   ·rintro⟨p,h1,h2,h4⟩;rcases NC p k with h5|h5
    ·exact⟨p,h5,h2,h4⟩
    ·obtain rfl:p=k:=by omega
     exact absurd h4 h3
theorem Eq{o:List Int}{x:Int}:x∈Z6 o↔∃p:Nat,p<o.length/\x=(p:Int)/\o.getD p 0=3:=O8 o x _
theorem J3(o:List Int):∀k,(Vz o k).Nodup
 |0=>List.nodup_nil
 |k+1=>by
  unfold Vz
  split
  ·rw[List.nodup_append];refine⟨J3 o k,by simp,fun a ha b hb=>?_⟩
   obtain⟨p,h1,h2,_⟩:=(O8 o a k).1 ha;simp at hb;omega
  ·exact J3 o k
theorem openL_nodup(o:List Int):(Z6 o).Nodup:=J3 o _
theorem Er(o:List Int)(y:Int):∀k,k<=o.length->Vz (o++[y]) k=Vz o k
 |0,_=>rfl
 |k+1,h=>by
  unfold Vz;rw[Er o y k (by omega),D9,LH (by omega),<-D9]
theorem openL_snoc(o:List Int)(y:Int):Z6 (o++[y])=if y=3 then Z6 o++[(o.length:Int)] else Z6 o:=by
 unfold Z6;rw[D7];have hs:Vz (o++[y]) (o.length+1)=if(o++[y]).getD o.length 0=3 then Vz (o++[y]) o.length++[(o.length:Int)] else Vz (o++[y]) o.length:=rfl
 show Vz (o++[y]) (o.length+1)=_
 rw[hs,Er o y _ (Na _)];have:(o++[y]).getD o.length 0=y:=by simp[D9]
 rw[this]
theorem GN(o:List Int):(o.length:Int)∉Z6 o:=by
 rw[Eq];rintro⟨p,h1,h2,_⟩;omega
def J5(n i:Nat)(l:List Int):Bool:=decide (l.length<=960/\l.length≠0/\(i+1=n∨l.length=960))
def VB(l:List Int):Bool:=l.all fun x=>decide (0<=x/\x<=3)
def JE(bits:List (List Int)):Bool:=(List.range bits.length).all fun i=>J5 bits.length i (bits.getD i [])&&VB (bits.getD i [])
theorem Kd(bits:List (List Int)):JE bits=true↔∀i,i<bits.length->J5 bits.length i (bits.getD i [])=true/\VB (bits.getD i [])=true:=by
 unfold JE;rw[NX];constructor
 ·intro h i hi;have:=h i (List.mem_range.2 hi);rw[Nu] at this;exact this
 ·intro h i hi;rw[Nu];exact h i (List.mem_range.1 hi)
theorem formB_len{bits:List (List Int)}{i:Nat}(hi:i<bits.length)(h:J5 bits.length i (bits.getD i [])=false):JE bits=false:=by
 cases hf:JE bits with
 |false=>rfl
 |true=>rw[((Kd bits).1 hf i hi).1] at h;cases h
theorem formB_elem{bits:List (List Int)}{i j:Nat}(hi:i<bits.length)(hj:j<(bits.getD i []).length)(h:(bits.getD i []).getD j 0<0∨3<(bits.getD i []).getD j 0):JE bits=false:=by
 cases hf:JE bits with
 |false=>rfl
 |true=>
  have h1:=((Kd bits).1 hf i hi).2;unfold VB at h1;rw[NX] at h1;have h2:=h1 ((bits.getD i []).getD j 0) (by rw[D9 (l:=bits.getD i []),D1 hj];exact Nm hj);rw[decide_eq_true_iff] at h2;omega
theorem okElems_of{l:List Int}(h:∀j,j<l.length->0<=l.getD j 0/\l.getD j 0<=3):VB l=true:=by
 unfold VB;rw[NX];intro x hx;obtain⟨i,hi,rfl⟩:=List.mem_iff_getElem.1 hx;have:=h i hi;rw[D9,D1 hi] at this;rw[decide_eq_true_iff];exact this
theorem flat_next{bits:List (List Int)}{k:Nat}(h:k<bits.length):(bits.take (k+1)).flatten=(bits.take k).flatten++bits.getD k []:=by
 rw[List.take_add_one,D1 h,List.flatten_append,D9,D1 h];simp
theorem take_next{l:List Int}{k:Nat}(h:k<l.length):l.take (k+1)=l.take k++[l.getD k 0]:=by
 rw[List.take_add_one,D1 h,D9,D1 h]
 rfl
def Lists(w:World)(B:Nat)(A:Option Addr)(ls:List (List Int)):Prop:=
 0<ls.length->∃ad,A=some ad/\ad.block<B/\∀j l,ls[j]?=some l->∃Aj cj,w.cell? (ad.add j)=some (.slice Aj l.length cj)/\Qh w B Aj (iv l)
def Jz(w:World)(B:Nat)(A:Option Addr)(ls:List Qv):Prop:=
 0<ls.length->∃b o,A=some ⟨b,o,none⟩/\b<B/\∀(j:Nat) x,ls[j]?=some x->w.cell? ⟨b,o+j*3,none⟩=some (.int .i64 x.key)/\w.cell? ⟨b,o+j*3+1,none⟩=some (.string ⟨x.val.toArray⟩)/\w.cell? ⟨b,o+j*3+2,none⟩=some (.int .i64 x.at_)
theorem Jz.below{w w':World}{B:Nat}{A:Option Addr}{ls:List Qv}(h:Jz w B A ls)(hb:Below B w w'):Jz w' B A ls:=fun hn=>by
 obtain⟨b,o,e,z0,hc⟩:=h hn;refine⟨b,o,e,z0,fun j x hj=>?_⟩
 obtain⟨h1,h2,h3⟩:=hc j x hj;exact⟨(hb.cell (p:=⟨b,o+j*3,none⟩) z0).trans h1,(hb.cell (p:=⟨b,o+j*3+1,none⟩) z0).trans h2,(hb.cell (p:=⟨b,o+j*3+2,none⟩) z0).trans h3⟩
theorem Jz.nil_(w:World)(B:Nat)(A:Option Addr):Jz w B A []:=fun h=>absurd h (by simp)
def ev:List Qv->List Value
 |[]=>[]
 |x::r=> .int .i64 x.key:: .string ⟨x.val.toArray⟩:: .int .i64 x.at_::ev r
theorem EJ(a b:List Qv):ev (a++b)=ev a++ev b:=by
 induction a with
 |nil=>rfl
 |cons x r ih=>simp[ev,ih]
theorem ev_get(l:List Qv):∀j x,l[j]?=some x->(ev l)[j*3]?=some (.int .i64 x.key)/\(ev l)[j*3+1]?=some (.string ⟨x.val.toArray⟩)/\(ev l)[j*3+2]?=some (.int .i64 x.at_):=by
 induction l with
 |nil=>intro j x h;simp at h
 |cons y r ih=>
  intro j x h;cases j with
  |zero=>
   simp at h;subst h;exact⟨rfl,rfl,rfl⟩
  |succ j=>
   simp at h;obtain⟨h1,h2,h3⟩:=ih j x h;refine⟨?_,?_,?_⟩
   ·rw[show(j+1)*3=j*3+1+1+1 by omega];simpa[ev] using h1
   ·rw[show(j+1)*3+1=j*3+1+1+1+1 by omega];simpa[ev] using h2
   ·rw[show(j+1)*3+2=j*3+2+1+1+1 by omega];simpa[ev] using h3
theorem Jz.of_own{w:World}{base:Nat}{e:TypeId}{A:Option Addr}{n c:Nat}{ls:List Qv}(hn:n=ls.length)(h:w.ownsRow base e 3 (.slice A n c) n (ev ls)):Jz w w.heap.size A ls:=fun hp=>by
 rcases h.2 with⟨hv,hz⟩|⟨g,cap,cur,hv,hb,hg,_⟩
 ·omega
 ·injection hv with h1 h2 h3
  subst h1;have hc:=h.cells (g:=g) rfl;refine⟨g,0,rfl,(D0.1 hg).1,fun j p hj=>?_⟩
  obtain⟨t0,t1,t2⟩:=ev_get ls j p hj;have q0:=hc _ _ t0;have q1:=hc _ _ t1;have q2:=hc _ _ t2;rw[Zo,ND] at q0 q1 q2;rw[ND];exact⟨q0,q1,q2⟩
section
open Go.WideMaps Go.Maps
open Go.Maps (Keyed int_keyed keyOf_int_mk)
theorem mibK:Keyed prog 3:=int_keyed underlying3
theorem zeroBl(w:World):(zeroValue 4).run prog w= .ok (.bool false) w:=by kernel_rfl
theorem U5{H:Type}{P:Program}{e:TypeId}(he:P.underlying e=some .bool){v:Value}{z:DataW H×List MemPlace}(h:plainElem P e v=some z):∃x,v= .bool x/\z=(.lit (.bool x),[]):=by
 unfold plainElem at h;rw[he] at h;cases v<;>simp at h
 subst h;exact⟨_,rfl,rfl⟩
theorem Jf{H:Type}{P:Program}(w:World){ops:Array Oper}{rest:List Oper}{o:Oper}{a:Act}{Q:Exit->Act->World->Prop}
  (hg:o.guard=none) (m x:Operand) (t:TypeId) (hop:o.op=Op.lookup t m x false)
  (k e:TypeId) (K:Keyed P k) (ht:P.underlying t=some (.map k e)) (he:P.underlying e=some .bool) (hz:(zeroValue e).run P w= .ok (.bool false) w) (b n:Nat) (D:DataW H)
  (hm:a.eval m= .map (some b)) (hown:w.ownsMap P k (plainElem P e) b n D) (key:Value) (kl:Lit) (hx:a.eval x=key) (hkey:keyOf P k key=some kl)
  (hK:∀c:Bool,D.atKey kl (.lit (.bool false))= .lit (.bool c)->wpList P ops Q rest (a.put o.dst (.bool c)) w):
  wpList P ops Q (o::rest) a w:=by
 refine wpList_plain hg fun K' hK'=>?_
 obtain⟨v,ps,z0,hv⟩:=hown.lookup K ht hz (plainElem_bool he false) hkey;obtain⟨c,rfl,hc⟩:=U5 he hv;simp only[Prod.mk.injEq] at hc;unfold Oper.wp;simp[execOp,hop,hm,hx,z0,Result.andThen];exact hK' _ _ (hK c hc.1)
def ZG(w:World)(b m:Nat)(S:List Int):Prop:=
 ∃D:DataW Unit,w.ownsMap prog 3 (plainElem prog 4) b m D/\(∀x:Int,D.atKey (.int .i64 x) (.lit (.bool false))= .lit (.bool (decide (x∈S))))/\(∀x:Int,Maps.has D (.int .i64 x)=decide (x∈S))/\Maps.size D=S.length
theorem ZG.made(w:World):ZG (w.alloc (.map #[] 0)) w.heap.size 0 []:=
 ⟨.map [],World.ownsMap_made w _ _ _,fun _=>rfl,fun _=>rfl,rfl⟩
section
variable {w w':World} {b m:Nat} {S:List Int}
theorem ZG.kept{row:Option Nat}(h:ZG w b m S)(hg:w.grownBy w' row)(hne:some b≠row):ZG w' b m S:=by
 obtain⟨D,h1,h2⟩:=h;exact⟨D,h1.kept hg hne,h2⟩
theorem ZG.keep(h:ZG w b m S)(hb:Below w.heap.size w w'):ZG w' b m S:=
 h.kept (row:=none) ⟨hb.os,hb.tape,hb.output,hb.size,fun i hi _=>hb.block i hi⟩ (by simp)
theorem ZG.alloc(h:ZG w b m S)(o:Obj):ZG (w.alloc o) b m S:=h.keep (Qd w o)
theorem ZG.lt(h:ZG w b m S):b<w.heap.size:=by obtain⟨D,h1,_⟩:=h;exact h1.lt
theorem ZG.not_row(h:ZG w b m S){B e s n:Nat}{v:Value}{xs:List Value}(ho:w.ownsRow B e s v n xs):some b≠v.ownBlock:=by
 obtain⟨D,⟨es,clock,hb,_⟩,_⟩:=h;rcases ho.2 with⟨rfl,_⟩|⟨g,cap,cur,rfl,_,hg,_⟩
 ·simp[Value.ownBlock]
 ·intro e;have e:b=g:=by simpa[Value.ownBlock] using e
  subst e;rw[hb] at hg;cases hg
theorem ZG.store{x:Int}(hx:x∉S){w':World}{D:DataW Unit}(h1:w.ownsMap prog 3 (plainElem prog 4) b m D)(h2:∀x:Int,D.atKey (.int .i64 x) (.lit (.bool false))= .lit (.bool (decide (x∈S))))
  (h3:∀x:Int,Maps.has D (.int .i64 x)=decide (x∈S)) (h4:Maps.size D=S.length) (ho:w'.ownsMap prog 3 (plainElem prog 4) b (m+1) (D.put (.int .i64 x) (.lit (.bool true)))):ZG w' b (m+1) (S++[x]):=by
 refine⟨_,ho,fun y=>?_,fun y=>?_,?_⟩
 ·by_cases hy:y=x
  ·subst hy;rw[Maps.atKey_put_same (k:= .int .i64 y) h1.isMap trivial];simp
  ·rw[Maps.atKey_put_other (fun e=>hy (by injection e)),h2 y];simp[hy]
 ·by_cases hy:y=x
  ·subst hy;rw[Maps.has_put_same (k:= .int .i64 y) h1.isMap trivial];simp
  ·rw[Maps.has_put_other (fun e=>hy (by injection e)),h3 y];simp[hy]
 ·rw[Maps.size_put (h1.tidy mibK),h3 x,D7,h4];simp[hx]
theorem VN(x:Int):∀(S:List Int),S.Nodup->x∈S->(S.filter fun y=>decide (y≠x)).length+1=S.length
 |[],_,h=>by cases h
 |y::r,hn,h=>by
  rw[List.nodup_cons] at hn;rw[List.filter_cons];by_cases hy:y=x
  ·subst hy;rw[if_neg (by simp),List.filter_eq_self.2 (fun z hz=>by
    rw[decide_eq_true_iff];rintro rfl;exact hn.1 hz)]
   rfl
  ·rcases Nt.1 h with h|h
   ·exact absurd h.symm hy
   ·rw[if_pos (by simpa using hy),No,No,VN x r hn.2 h]
theorem ZG.drop{x:Int}(hS:S.Nodup)(hx:x∈S){w':World}{D:DataW Unit}(h1:w.ownsMap prog 3 (plainElem prog 4) b m D)(h2:∀x:Int,D.atKey (.int .i64 x) (.lit (.bool false))= .lit (.bool (decide (x∈S))))
  (h3:∀x:Int,Maps.has D (.int .i64 x)=decide (x∈S)) (h4:Maps.size D=S.length) (ho:w'.ownsMap prog 3 (plainElem prog 4) b m (D.del (.int .i64 x))):ZG w' b m (S.filter fun y=>decide (y≠x)):=by
 refine⟨_,ho,fun y=>?_,fun y=>?_,?_⟩
 ·by_cases hy:y=x
  ·subst hy;rw[Maps.atKey_del_same];simp
  ·rw[Maps.atKey_del_other (fun e=>hy (by injection e)),h2 y];simp[hy]
 ·by_cases hy:y=x
  ·subst hy;rw[Maps.has_del_same];simp
  ·rw[Maps.has_del_other (fun e=>hy (by injection e)),h3 y];simp[hy]
 ·have h5:=Maps.size_del (k:= .int .i64 x) (h1.tidy mibK);rw[h3 x,decide_eq_true hx,if_pos rfl,h4] at h5;have h6:=VN x S hS hx;omega
end
section
variable {w:World} {b m:Nat} {S:List Int} {ops:Array Oper} {rest:List Oper} {o:Oper} {a:Act} {Q:Exit->Act->World->Prop}
theorem VU(hg:o.guard=none)(mo xo:Operand)(hop:o.op=Op.lookup 333 mo xo false)(h:ZG w b m S)(x:Int)(hw:(Lit.int .i64 x).wf=true)(hm:a.eval mo= .map (some b))(hx:a.eval xo= .int .i64 x)
  (hK:wpList prog ops Q rest (a.put o.dst (.bool (decide (x∈S)))) w):wpList prog ops Q (o::rest) a w:=by
 obtain⟨D,h1,h2,h3,h4⟩:=h;exact Jf w hg mo xo 333 hop 3 4 mibK underlying333 underlying4 (zeroBl w) b m D hm h1 _ (.int .i64 x) hx (keyOf_int_mk underlying3 hw) (fun y hy=>by
  rw[h2 x] at hy
  injection hy with hy
  injection hy with hy
  rw[<-hy];exact hK)
theorem KH(hg:o.guard=none)(mo xo vo:Operand)(hop:o.op=Op.mapUpdate 333 mo xo vo)(h:ZG w b m S)(hmm:m<maxLen)(x:Int)(hS:x∉S)(hw:(Lit.int .i64 x).wf=true)(hm:a.eval mo= .map (some b))(hx:a.eval xo= .int .i64 x)(hv:a.eval vo= .bool true)
  (hK:∀w',ZG w' b (m+1) (S++[x])->w.grownBy w' (some b)->wpList prog ops Q rest (a.put o.dst undef) w'):wpList prog ops Q (o::rest) a w:=by
 obtain⟨D,h1,h2,h3,h4⟩:=h;exact wpList_mapUpdate_own w hg mo xo vo 333 hop 3 4 mibK underlying333 _ b m D hm h1 hmm _ _ (.int .i64 x) hx hv (keyOf_int_mk underlying3 hw) _ [] (plainElem_bool underlying4 true) (fun w' r1 r2=>hK w' (ZG.store hS h1 h2 h3 h4 r1) r2)
theorem KX(hg:o.guard=none)(mo xo:Operand)(hop:o.op=Op.call {callee:=Callee.builtin Builtin.delete,args:=#[mo,xo],argTypes:=#[333,3]})(h:ZG w b m S)(x:Int)(hn:S.Nodup)(hS:x∈S)(hw:(Lit.int .i64 x).wf=true)(hm:a.eval mo= .map (some b))(hx:a.eval xo= .int .i64 x)
  (hK:∀w',ZG w' b m (S.filter fun y=>decide (y≠x))->w.grownBy w' (some b)->wpList prog ops Q rest (a.put o.dst (.tuple #[])) w'):wpList prog ops Q (o::rest) a w:=by
 obtain⟨D,h1,h2,h3,h4⟩:=h;exact wpList_delete_own w hg mo xo 333 3 hop 4 mibK underlying333 _ b m D hm h1 _ (.int .i64 x) hx (keyOf_int_mk underlying3 hw) (fun w' r1 r2=>hK w' (ZG.drop hn hS h1 h2 h3 h4 r1) r2.grown)
theorem JA(hg:o.guard=none)(mo:Operand)(hop:o.op=Op.call {callee:=Callee.builtin Builtin.len,args:=#[mo],argTypes:=#[333]})(h:ZG w b m S)(hm:a.eval mo= .map (some b))
  (hK:wpList prog ops Q rest (a.put o.dst (.int .i64 (S.length:Int))) w):wpList prog ops Q (o::rest) a w:=by
 obtain⟨D,h1,h2,h3,h4⟩:=h;rw[<-h4] at hK;exact wpList_len_own w hg mo 333 hop 3 4 underlying333 _ b m D hm h1 hK
end
end
section
open Go.RowKit Go.Shelf
attribute [local go_sem] Oper.semAt_some
def KpC(n₀ b1 b2:Nat)(W W':World):Prop:=Below n₀ W W'/\W'.heap[b1]?=W.heap[b1]?/\W'.heap[b2]?=W.heap[b2]?
theorem KpC.refl(n₀ b1 b2:Nat)(W:World):KpC n₀ b1 b2 W W:=⟨D6 _ _,rfl,rfl⟩
theorem KpC.trans{n₀ b1 b2:Nat}{A B C:World}(h:KpC n₀ b1 b2 A B)(k:KpC n₀ b1 b2 B C):KpC n₀ b1 b2 A C:=⟨h.1.trans k.1,k.2.1.trans h.2.1,k.2.2.trans h.2.2⟩
theorem KpC.turn{n₀ b1 b2:Nat}{w:World}(hn:n₀<=w.heap.size)(hb1:b1<w.heap.size)(hb2:b2<w.heap.size)(W:World)(l:Nat)(o o':Obj)(hl:w.heap.size<=l)(h:W.heap[l]?=some o)(h1:o.isCells=false)(h2:o.isWalk=false):KpC n₀ b1 b2 W (W.putObj l o'):=
 ⟨belowK_b hn W l o o' hl h h1 h2,World.putObj_heap_other (by omega),World.putObj_heap_other (by omega)⟩
def Kg(ad:Addr)(l:List Int)(j:Nat):Value:= .slice (some (ad.add (960*j))) (ZR l j).length (ZR l j).length
theorem chunk1_in(n:Nat)(hn:1<=n)(lp b1 b2 n₀:Nat)(ad:Addr)(A:Option Addr)(c:Nat)(l:List Int)(hA:0<l.length->A=some ad)(hm:l.length<=65536)(hc:l.length<=c)(J Jx:List Nat->World->Prop)
  (hY:∀pre x W,J pre W->pre.length<parts l.length->x<parts l.length->YieldAt Fence.wide (n-1) prog lp #[Kg ad l x] W fun e W'=>
   (e= .returned (.bool true)/\J (pre++[x]) W'/\KpC n₀ b1 b2 W W')∨(e= .returned (.bool false)/\Jx (pre++[x]) W'))
  (hJd:∀pre W q,J pre W->J pre (W.drewN q))
  (W:World) (hb1:W.heap[b1]?=some (.cells #[.slice A l.length c] 68)) (hb2:W.heap[b2]?=some (.cells #[.int .i64 960] 3)) (h0:J [] W):
  CallsIn Fence.wide n prog 251 #[.func (.yield lp) #[] #[], .pointer (some ⟨b1,0,none⟩), .pointer (some ⟨b2,0,none⟩)] W fun e W'=>(∃v,e= .returned v)/\
   ((∃ys,ys=List.range (parts l.length)/\J ys W')∨(∃pre,True/\Jx pre W')):=by
 refine callsIn_of_wp func251 rfl trivial ?_ rfl;simp only[ntmps251,List.size_toArray,No,NV,N9,La,NJ,NK,NR,NM,Np,NH];gi_wp2;gi_loopw [4] (fun i wr=>∃k:Nat,k<=parts l.length/\i= .int .i64 ((960*k:Nat):Int)/\J (List.range k) wr/\KpC n₀ b1 b2 W wr)
  (fun i _=>100000-(intOf i).toNat)
 case atStart=>exact⟨0,Lb _,rfl,h0,KpC.refl _ _ _ _⟩
 case round=>
  obtain⟨k,hk,rfl,za,z0⟩:=hrel;have hc0:=Qa (z0.2.1.trans hb1) 0 rfl;have hc1:=Qa (z0.2.2.trans hb2) 0 rfl;have HJ:=DY za;have z6:=DY z0;clear za z0;obtain⟨i,hi⟩:=DR (960*k);rw[<-hi];have HI:=DY hi;by_cases hlt:i<l.length
  ·have zb:(i:Int)<(l.length:Int):=by omega
   have z0:k<parts l.length:=by unfold parts;omega
   obtain rfl:=hA (by omega);have z1:=DY z0;clear hi hk z0;gi_wp2;refine wpIn_wide.2 ?_;have i1:(i:Int)<=(l.length:Int):=by omega
   have i2:i<=l.length:=by omega
   have i3:¬c=i:=by omega
   go_quiet (fail)
   obtain⟨e,he⟩:=DR ((ZR l k).length);have zd:e=min 960 (l.length-i):=by rw[he,Gy,HI.out]
   obtain⟨j,hj⟩:=DR (i+e);have z2:(if((l.length-i:Nat):Int)<960 then((l.length-i:Nat):Int) else 960)=(e:Int):=by split<;>omega
   rw[z2];have z8:Kg ad l k= .slice (some (ad.add i)) (j-i) (j-i):=by
    unfold Kg;rw[<-he,<-HI.out,show j-i=e by omega]
   have z7:=hY (List.range k) k (wr.drewN nq) (hJd _ _ _ HJ) (by rw[LN];exact z1.out) z1;rw[z8] at z7;obtain⟨fn,tmps,assign,body,hy,hR⟩:=z7;have e1:IntKind.i64.wrap ((i:Int)+(e:Int))=(j:Int):=by rw[hj,IntKind.wrap_i64];omega
   have j1:i<=j:=by omega
   have j2:j<=c:=by omega
   have j3:¬j=i:=by omega
   have j4:(i:Int)<=(j:Int):=by omega
   have j5:(j:Int)<=(c:Int):=by omega
   have j6:0<j-i:=by omega
   have z9:960*k<65536:=by rw[<-HI.out];omega
   have e2:IntKind.i64.wrap ((i:Int)+960)=((960*(k+1):Nat):Int):=by rw[Nv,HI.out];omega
   have z5:=DY (show KpC n₀ b1 b2 W (wr.drewN nq) from⟨Qs z6.out.1 _,z6.out.2⟩);have zf:=DY z9
   try dsimp only at hy
   clear z9 z2 z8 he zd hj i1 i2 i3;go_wp2_with fail
   gi_wp2;refine hR.mono ?_;rintro e W3 (⟨rfl,ze,zg⟩|⟨rfl,z4⟩)
   ·have z3:=z5.out.trans zg;have hc1':=Qa (z3.2.2.trans hb2) 0 rfl;gi_wp2;go_roundw
    case rel=>exact⟨k+1,z1.out,by first|rfl|go_num,by rw[NU];exact ze,z3⟩
    case measure=>simp[intOf];have:=zf.out;have:=HI.out;omega
   ·gi_wp2;refine bodyPost_ret (results_none rfl _ _ _) rfl ?_;exact⟨⟨_,rfl⟩, .inr ⟨_,trivial,z4⟩⟩
  ·have zb:decide (i<l.length)=false:=decide_eq_false hlt;have zc:k=parts l.length:=by unfold parts at*;omega
   subst zc;clear hi hk hlt;gi_wp2;go_end0
   exact⟨⟨_,rfl⟩, .inl ⟨_,rfl,HJ.out⟩⟩
theorem chunk_in(n:Nat)(A:Option Addr)(m c:Nat)(w:World):
  CallsIn Fence.wide n prog 225 #[.slice A m c, .int .i64 960] w fun e w'=>e= .returned (.func (.func 251) #[] #[.pointer (some ⟨w.heap.size,0,none⟩), .pointer (some ⟨w.heap.size+1,0,none⟩)])/\w'=(w.alloc (.cells #[.slice A m c] 68)).alloc (.cells #[.int .i64 960] 3):=by
 refine callsIn_of_wp func225 rfl trivial ?_ rfl;simp only[ntmps225,List.size_toArray,No,NV,N9,La,NJ,NK,NR,NM,Np,NH];have h2:=Qa (heap_alloc_new (w.alloc (.cells #[.slice A m c] 68)) (.cells #[.int .i64 960] 3)) 0 rfl;rw[Nr] at h2;gi_wp2;go_ret;exact⟨rfl,rfl⟩
abbrev CSpot(l:List Int):={j:Nat // j<parts l.length}
theorem chunk_stops(n:Nat)(hn:1<=n)(b1 b2 n₀:Nat)(ad:Addr)(A:Option Addr)(c:Nat)(l:List Int)(hA:0<l.length->A=some ad)(hm:l.length<=65536)(hc:l.length<=c)(w:World)(h1:b1<w.heap.size)(h2:b2<w.heap.size)
  (hb1:w.heap[b1]?=some (.cells #[.slice A l.length c] 68)) (hb2:w.heap[b2]?=some (.cells #[.int .i64 960] 3)):
  SeqStopsK Fence.wide n prog 251 #[.pointer (some ⟨b1,0,none⟩), .pointer (some ⟨b2,0,none⟩)] (fun x:CSpot l=>#[Kg ad l x.1]) (KpC n₀ b1 b2) (fun ys=>ys.map (·.1)=List.range (parts l.length))
   (fun _=>True) (parts l.length) w:=fun lp J Jx W hW hJ _ hY h0=>by
 refine(chunk1_in n hn lp b1 b2 n₀ ad A c l hA hm hc (fun z1 W=>∃ps:List (CSpot l),ps.map (·.1)=z1/\J ps W) (fun z1 W=>∃ps:List (CSpot l),ps.map (·.1)=z1/\Jx ps W) ?_ ?_ W ((hW.block b1 h1).trans hb1) ((hW.block b2 h2).trans hb2) ⟨[],rfl,h0⟩).mono ?_
 ·rintro _ x W1 ⟨ps,rfl,hp⟩ hl hx;rw[NN] at hl;have:=hY ps ⟨x,hx⟩ W1 hp hl;obtain⟨fn,z2,z0,z3,hy,hR⟩:=this;refine⟨fn,z2,z0,z3,hy,hR.mono ?_⟩;rintro e W3 (⟨rfl,h3,h4⟩|⟨rfl,h3⟩)
  ·exact .inl ⟨rfl,⟨_,by rw[Ns];rfl,h3⟩,h4⟩
  ·exact .inr ⟨rfl,_,by rw[Ns];rfl,h3⟩
 ·rintro _ W1 q ⟨ps,rfl,hp⟩;exact⟨ps,rfl,hJ ps W1 (W1.drewN q) none hp ⟨rfl,rfl,rfl,Na _,fun _ _ _=>rfl⟩ (fun r e=>by cases e)⟩
 ·rintro e W1 ⟨hv,⟨ys,z5,ps,z6,z4⟩|⟨z1,_,ps,_,z4⟩⟩
  ·exact⟨hv, .inl ⟨ps,z6.trans z5,z4⟩⟩
  ·exact⟨hv, .inr ⟨ps,trivial,z4⟩⟩
end
theorem slotsOK_no{l:List S3}{k:Nat}(hk:k<l.length)(h:VJ l[k]=false):Vu l=false:=by
 unfold Vu;rw[show l.all VJ=false from LM.2 ⟨l[k],Nm hk,by simp[h]⟩,Bool.and_false]
theorem slotsOK_yes{l:List S3}(hl:l.length<=15)(h:(l.take l.length).all VJ=true):Vu l=true:=by
 unfold Vu;rw[Nw] at h;rw[h,decide_eq_true hl]
 rfl
theorem slotB_ne(p:S3):(V5 p==[])=false:=by
 have:=O3 p;cases h:V5 p with
 |nil=>rw[h] at this;simp at this
 |cons x xs=>rfl
theorem all_snoc{l:List S3}{k:Nat}(hk:k<l.length)(h:(l.take k).all VJ=true)(h2:VJ l[k]=true):(l.take (k+1)).all VJ=true:=by
 rw[Xn l k hk,List.all_append,h];simp[h2]
theorem sput_any(A:Option Addr)(c:Nat)(l:List S3)(w:World)(hw:∀p∈l,(Lit.int .i64 p.1).wf=true/\(Lit.int .i64 p.2.1).wf=true/\(Lit.int .i64 p.2.2).wf=true)(hm:l.length*24<=reachBytes)(h:ZI w w.heap.size A l):
  Calls prog 179 #[.slice A l.length c] w (Xl 5 (bv (YO l)) (JR l) w):=by
 simp only[reachBytes] at hm;by_cases h15:15<l.length
 ·have hv:YO l=[]/\JR l=1:=by
   have:Vu l=false:=by unfold Vu;rw[decide_eq_false (by omega)];rfl
   unfold YO JR;rw[this];exact⟨rfl,rfl⟩
  rw[hv.1,hv.2];have d1:decide ((15:Int)<(l.length:Int))=true:=decide_eq_true (by omega);clear hv;go_enter func179,ntmps179
  go_wp2;go_ret2
  exact⟨none,0,rfl,Nb _ _ _ _,D6 _ _⟩
 have d1:decide ((15:Int)<(l.length:Int))=false:=decide_eq_false (by omega);obtain⟨iU,hi,zp,zn,zo⟩:=info_parts Tryz.infoU8;have HW:=DY hw;have zz:=DY (fun k hk h=>(show YO l=[]/\JR l=1 from by unfold YO JR;rw[slotsOK_no (l:=l) (k:=k) hk h];exact⟨rfl,rfl⟩));have zf:=DY (fun h=>(show YO l=RF l/\JR l=0 from by unfold YO JR;rw[slotsOK_yes (l:=l) (by omega) h];exact⟨rfl,rfl⟩));have zi:Zu [(4,(l.length:Int))]=0/\YH [(4,(l.length:Int))]=leb 4 l.length:=by
  have:Zu [(4,(l.length:Int))]=0:=by simp[Zu,Xa,XD];omega
  exact⟨this,by unfold YH;rw[if_pos this];simp[ZC]⟩
 have ze:=fun A W h=>J0 A 1 [(4,(l.length:Int))] W (by simp[reachBytes]) (by intro p hp;simp at hp;subst hp;simp[Lit.wf,IntKind.min,IntKind.max,IntKind.bits,IntKind.signed];omega) h
 rw[zi.1,zi.2] at ze;have hR:YC (w.alloc (.cells #[.int .i64 4, .int .i64 l.length] 289)) (w.heap.size+1) (some ⟨w.heap.size,0,none⟩) [(4,(l.length:Int))]:=fun _=>by
  refine⟨_,0,rfl,N7 _,fun j p hj=>?_⟩
  have zm:=(NG.1 hj).1;simp at zm;subst zm;rw[Nk,Nk];simp at hj;subst hj;exact⟨rfl,rfl⟩
 have zy:Hid (RF l=leb 4 l.length++(l.flatMap V5++List.replicate (240-16*l.length) 0)):=rfl;have zr:=DY (slotsB_len l (by omega));have zw:=DY (flatS_snoc l);clear zi hw;go_enter func179,ntmps179
 go_wp2_with fail
 refine(ze _ _ (hR.more (by simp))).mono ?_;rintro e w2 ⟨A2,c2,rfl,z1,zl⟩;rw[Qm,QM] at z1;rw[Qm,QM];have zs:=Qb (Qd w _) zl;have z1:=Q7 z1 (show w.heap.size<=(w.alloc (.cells #[.int .i64 4, .int .i64 l.length] 289)).heap.size by simp);clear ze zl hR;go_wp2_with fail
 go_loopw [4,22] (fun v i wr=>∃k m:Nat,k<=l.length/\i= .int .i64 k/\m=4+16*k/\wr.ownsRow w.heap.size 5 1 v m (bv (leb 4 l.length++(l.take k).flatMap V5))/\(l.take k).all VJ=true/\Below w.heap.size w wr) (fun _ i _=>l.length-(intOf i).toNat)
 case atStart=>exact⟨0,4,by omega,rfl,rfl,by simpa using z1,rfl,zs⟩
 case round=>
  obtain⟨k,m,hk,rfl,zh,z2,z8,z5⟩:=hrel;obtain⟨Ab,cb,rfl⟩:=QN z2;have z7:=DY z8;have zu:=DY zh;have hm300:m<=300:=by omega
  clear z8;by_cases hlt:k<l.length
  ·clear zh;obtain⟨b,o,rfl,hbb,hc⟩:=h.below z5 (by omega);obtain⟨e0,e1,e2⟩:=hc k _ (D1 hlt);obtain⟨w0,w1,w2'⟩:=HW.out l[k] (Nm hlt);have zb:=DY (fun hh=>zz.out k hlt hh);have zx:=DY (zw.out k hlt);have zd:=DY (fun hh=>all_snoc (l:=l) hlt z7 hh);have zq:=G3 l[k].1 l[k].2.1 l[k].2.2;have z3:=slot_val l[k];unfold RH at z3;have hne:=slotB_ne l[k];have zg:=O3 l[k];have hs:=fun W=>zq W w0 w1 w2'
   rw[z3] at hs;have i0:(0:Int)<=(k:Int):=by omega
   have i1:(k:Int)<(l.length:Int):=by omega
   generalize l[k].1=x0 at*;generalize l[k].2.1=x1 at*;generalize l[k].2.2=x2 at*;generalize V5 l[k]=sk at*;generalize VJ l[k]=ok at*;clear hc zq z3 w0 w1 w2';have hown':=z2.alloc (.cells #[.int .i64 x0, .int .i64 x1, .int .i64 x2] 148);have hbr':=z5.alloc z5.size (.cells #[.int .i64 x0, .int .i64 x1, .int .i64 x2] 148);cases ok with
   |false=>
    have HF:=Lib.hid (zb.out rfl);have z6:∀W:World,Calls prog 175 #[.agg #[.int .i64 x0, .int .i64 x1, .int .i64 x2]] W fun e w'=>e= .returned (.string ⟨#[]⟩)/\Below W.heap.size W w':=hs
    clear hs zb zd;go_wp2_with fail
    refine(z6 _).mono ?_;rintro e w3 ⟨rfl,z4⟩;have za:=hbr'.trans (z4.mono hbr'.size);clear z6 z4;go_wp2;go_ret2
    exact⟨none,0,by rw[HF.out.1,HF.out.2];rfl,by rw[HF.out.1];exact Nb _ _ _ _,za⟩
   |true=>
    have HT:=Lib.hid (zd.out rfl);have z6:∀W:World,Calls prog 175 #[.agg #[.int .i64 x0, .int .i64 x1, .int .i64 x2]] W fun e w'=>e= .returned (.string ⟨sk.toArray⟩)/\Below W.heap.size W w':=hs
    clear hs zb zd;go_wp2_with fail
    refine(z6 _).mono ?_;rintro e w3 ⟨rfl,z4⟩;have za:=hbr'.trans (z4.mono hbr'.size);have z9:=QT hown' z4;clear z6 z4 z2 hown' hbr';go_wp2_with (at_builtin;(refine Oj _ rfl (.tmp 30) (.tmp 31) _ 9 rfl w.heap.size 5 iU _ underlying22 underlying9 hi zp zn zo rfl _ m _ rfl z9 sk rfl (by omega) za.size ?_);intro A5 c5 w5 z0 zv zc;rw[zg] at z0)
    go_roundw
    case rel=>exact⟨k+1,m+16,by omega,by go_num,by have:=zu.out;omega,by rw[zx.out,<-NQ,Ze];exact z0,HT.out,za.trans zc⟩
    case measure=>simp[intOf];omega
  ·obtain rfl:k=l.length:=by omega
   have HY:=DY (zf.out z7);obtain⟨zk,zj⟩:=DR (240-16*l.length);have hz:(244:Int)-(m:Int)=(zk:Int):=by omega
   have hz2':m+zk=244:=by omega
   have zt:=DY zj;clear zh zj;go_wp2_with (at_builtin;refine UH _ rfl (.tmp 34) (.tmp 37) _ 3 rfl w.heap.size 5 iU underlying22 underlying3 hi zp zn zo _ m _ rfl z2 zk rfl (by omega) z5.size ?_;intro A5 c5 w5 z0 zv zc;rw[hz2'] at z0 ⊢)
   go_ret2
   exact⟨A5,c5,by rw[HY.out.1,HY.out.2,Qm,zr.out];rfl,by rw[HY.out.1,Qm,zr.out,zy.out,<-zt.out,<-NQ,Ze];rw[Nw] at z0;exact z0,z5.trans zc⟩
section
open Go.WideMaps Go.Maps
open Go.Maps (Keyed int_keyed keyOf_int_mk)
theorem intK:Keyed prog 3:=int_keyed underlying3
def X6(v:Value):Option (DataW Value×List MemPlace):=some (.held v,[])
def JC(x:Int):Prop:=(Lit.int .i64 x).wf=true
def Xm(w:World)(b n:Nat)(f:Int->Option Value):Prop:=
 ∃D:DataW Value,w.ownsMap prog 3 X6 b n D/\∀x:Int,Maps.has D (.int .i64 x)=(f x).isSome/\∀z,D.atKey (.int .i64 x) z=match f x with|some v=> .held v|none=>z
section
variable {w w':World} {b n:Nat} {f:Int->Option Value}
theorem Xm.made(w:World):Xm (w.alloc (.map #[] 0)) w.heap.size 0 (fun _=>none):=⟨.map [],World.ownsMap_made w _ _ _,fun _=>⟨rfl,fun _=>rfl⟩⟩
theorem Xm.kept{row:Option Nat}(h:Xm w b n f)(hg:w.grownBy w' row)(hne:some b≠row):Xm w' b n f:=by
 obtain⟨D,h1,h2⟩:=h;exact⟨D,h1.kept hg hne,h2⟩
theorem Xm.keep(h:Xm w b n f)(hb:Below w.heap.size w w'):Xm w' b n f:=
 h.kept (row:=none) ⟨hb.os,hb.tape,hb.output,hb.size,fun i hi _=>hb.block i hi⟩ (by simp)
theorem Xm.block(h:Xm w b n f):∃es z0,w.heap[b]?=some (.map es z0):=by obtain⟨D,⟨es,z0,hb,_⟩,_⟩:=h;exact⟨es,z0,hb⟩
theorem Xm.ne_cells{g:Nat}{cs:Array Value}{t:TypeId}{fz:Nat×Nat}(h:Xm w b n f)(hg:w.heap[g]?=some (.cells cs t fz)):b≠g:=fun e=>by
 obtain⟨es,clock,hb⟩:=h.block;subst e;rw[hb] at hg;cases hg
theorem Xm.not_row(h:Xm w b n f){B e s k:Nat}{v:Value}{xs:List Value}(ho:w.ownsRow B e s v k xs):some b≠v.ownBlock:=by
 rcases ho.2 with⟨rfl,_⟩|⟨g,cap,cur,rfl,_,hg,_⟩
 ·simp[Value.ownBlock]
 ·intro e;have e:b=g:=by simpa[Value.ownBlock] using e
  exact h.ne_cells hg e
theorem Xm.put{t e:TypeId}(h:Xm w b n f)(ht:prog.underlying t=some (.map 3 e))(hn:n<maxLen){x:Int}(hx:JC x)(val:Value):
  ∃w',(Instr.mapUpdate t (.map (some b)) (.int .i64 x) val).run prog w= .ok () w'/\Xm w' b (n+1) (fun y=>if y=x then some val else f y)/\w.grownBy w' (some b):=by
 obtain⟨D,h1,h2⟩:=h;obtain⟨w',hr,ho,hg⟩:=h1.update intK ht hn (keyOf_int_mk underlying3 hx) (show X6 val=some (.held val,[]) from rfl);refine⟨w',hr,⟨_,ho,fun y=>?_⟩,hg⟩
 by_cases hy:y=x
 ·subst hy;refine⟨?_,fun z=>?_⟩
  ·rw[Maps.has_put_same (k:= .int .i64 y) h1.isMap trivial];simp
  ·rw[Maps.atKey_put_same (k:= .int .i64 y) h1.isMap trivial];simp
 ·refine⟨?_,fun z=>?_⟩
  ·rw[Maps.has_put_other (fun e=>hy (by injection e)),(h2 y).1];simp only[if_neg hy]
  ·rw[Maps.atKey_put_other (fun e=>hy (by injection e)),(h2 y).2];simp only[if_neg hy]
theorem Xm.get{t e:TypeId}(h:Xm w b n f)(ht:prog.underlying t=some (.map 3 e)){z:Value}(hz:(zeroValue e).run prog w= .ok z w){x:Int}(hx:JC x):
  (Instr.lookup t (.map (some b)) (.int .i64 x) false).run prog w= .ok ((f x).getD z) w:=by
 obtain⟨D,h1,h2⟩:=h;obtain⟨v,ps,hr,hv⟩:=h1.lookup intK ht hz (show X6 z=some (.held z,[]) from rfl) (keyOf_int_mk underlying3 hx);rw[hr];rw[(h2 x).2] at hv;unfold X6 at hv;cases hf:f x with
 |none=>rw[hf] at hv;cases hv;rfl
 |some u=>rw[hf] at hv;cases hv;rfl
theorem Xm.got{t e:TypeId}(h:Xm w b n f)(ht:prog.underlying t=some (.map 3 e)){z:Value}(hz:(zeroValue e).run prog w= .ok z w){x:Int}(hx:JC x):
  (Instr.lookup t (.map (some b)) (.int .i64 x) true).run prog w= .ok (.tuple #[(f x).getD z, .bool (f x).isSome]) w:=by
 obtain⟨D,h1,h2⟩:=h;obtain⟨v,ps,hr,hv⟩:=h1.look_ok intK ht hz (show X6 z=some (.held z,[]) from rfl) (keyOf_int_mk underlying3 hx);rw[hr];rw[(h2 x).2] at hv;rw[(h2 x).1];unfold X6 at hv;cases hf:f x with
 |none=>rw[hf] at hv;cases hv;rfl
 |some u=>rw[hf] at hv;cases hv;rfl
end
end
end Go.Proofs.YtijcgllddnpmhaaGreatDoor
