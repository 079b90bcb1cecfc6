/- TopSound: lemmas, part 10. -/
import Derived.Test.YtijcgllddnpmhaaGreatDoorTopSoundT08
set_option maxRecDepth 100000
set_option maxHeartbeats 16000000
set_option linter.all false
namespace Go.Proofs.YtijcgllddnpmhaaGreatDoor
open Go.RowKit Go.Proofs.Tryz
theorem made_zerosN(n:Nat):(madeCells (Value.int .u8 0).cells (n*1)).toList=bv (List.replicate n 0):=by
 rw[NE];apply Lo
 ·simp[madeCells,bv]
 ·intro i h1 h2;simp[madeCells,bv,Value.cells,LT]
def flN(n:QF):Nat:=if n.leaf=true then 1 else 0
theorem headP(n:QF)(fl tn kn W M:Nat)(h1:fl=flN n)(h2:n.t=(tn:Int))(h3:kn=n.keys.length)(h4:W=wN n)(h5:M=mN n):
  fB [(1,fl),(1,tn),(2,kn),(2,W),(2,M),(4,0)]=V7 n:=by
 subst h1 h3 h4 h5;unfold V7 flN fB;rw[h2];simp only[List.flatMap_cons,List.flatMap_nil,NZ,NQ,N3]
theorem cpack6(n:QF)(fl tn kn W M:Nat)(h1:fl=flN n)(h2:n.t=(tn:Int))(h3:kn=n.keys.length)(h4:W=wN n)(h5:M=mN n)(t5:tn<256)(k5:kn<65536)(w5:W<65536)(m5:M<65536)(g:Nat)(V:World)
  (hg:V.heap[g]?=some (.cells #[.int .i64 1, .int .i64 (fl:Int), .int .i64 1, .int .i64 (tn:Int), .int .i64 2, .int .i64 (kn:Int), .int .i64 2, .int .i64 (W:Int), .int .i64 2, .int .i64 (M:Int), .int .i64 4, .int .i64 0] 289)):
  Calls prog 164 #[.slice (some ⟨g,0,none⟩) 6 6] V fun e w'=>
   ∃A c,e= .returned (.tuple #[.slice A 12 c, .int .i64 0])/\Hid (w'.ownsRow V.heap.size 5 1 (.slice A 12 c) 12 (bv (V7 n)))/\Hid (Below V.heap.size V w'):=by
 have z0:fl<256:=by rw[h1];unfold flN;split<;>omega
 have hB:=headP n fl tn kn W M h1 h2 h3 h4 h5;have K:=cpackL [(1,fl),(1,tn),(2,kn),(2,W),(2,M),(4,0)] (by
  intro p hp;simp only[Nt,LC,or_false] at hp;unfold EG;rcases hp with rfl|rfl|rfl|rfl|rfl|rfl
  ·exact .inl ⟨rfl,z0⟩
  ·exact .inl ⟨rfl,t5⟩
  ·exact .inr (.inl ⟨rfl,k5⟩)
  ·exact .inr (.inl ⟨rfl,w5⟩)
  ·exact .inr (.inl ⟨rfl,m5⟩)
  ·exact .inr (.inr (.inl ⟨rfl,by decide⟩))) (by simp) g V hg
 rw[hB,Yv] at K;exact K
theorem cpack1(x:Nat)(hx:x<9223372036854775808)(g:Nat)(V:World)(hg:V.heap[g]?=some (.cells #[.int .i64 8, .int .i64 (x:Int)] 289)):
  Calls prog 164 #[.slice (some ⟨g,0,none⟩) 1 1] V fun e w'=>
   ∃A c,e= .returned (.tuple #[.slice A 8 c, .int .i64 0])/\Hid (w'.ownsRow V.heap.size 5 1 (.slice A 8 c) 8 (bv (leb 8 x)))/\Hid (Below V.heap.size V w'):=by
 have hB:fB [(8,x)]=leb 8 x:=by simp[fB]
 have K:=cpackL [(8,x)] (by
  intro p hp;simp only[Nt,LC,or_false] at hp;unfold EG;subst hp;exact .inr (.inr (.inr ⟨rfl,hx⟩))) (by simp) g V hg
 rw[hB,QM] at K;exact K
theorem RW{w:World}{n:QF}{A:Option Addr}{c:Nat}{A2:Option Addr}{c2:Nat}(h:OW w w.heap.size n A c A2 c2)(hk:n.keys.length<=1000000)(hv:n.vals.length<=1000000):
  Calls prog 254 #[.agg #[.int .i64 n.t, .bool n.leaf, .slice A n.keys.length c, .slice A2 n.vals.length c2]] w (Xl 5 (bv (Zi n)) (Ek n) w):=by
 obtain⟨w1,zd⟩:=DR (w.alloc (.cells (UL n A c A2 c2) 113));have hx:Jy w1 w.heap.size w.heap.size n A c A2 c2:=by rw[zd];exact Jy.new h
 have zS:w1.heap.size=w.heap.size+1:=by rw[zd];simp
 have zt:=DY (show Below w.heap.size w w1 by rw[zd];exact Qd w _);have zi:w1.heap[w.heap.size]?=some (.cells (UL n A c A2 c2) 113):=by rw[zd];exact heap_alloc_new w _
 have ze:(prog.info? 113).map (·.size)=some (UL n A c A2 c2).size:=by
  rw[show(UL n A c A2 c2).size=4 from rfl]
  kernel_rfl
 have zb:=right_any (h.ext zt) hk hv;have zr:=DY (fun(V:World) (hb:Below w1.heap.size w1 V)=>hx.ext (by omega) (by omega) hb);have hss1:w.heap.size<w1.heap.size:=by omega
 cases hok:Ys n with
 |false=>
  have zf:Zi n=[]/\Ek n=1:=by unfold Zi Ek;rw[hok];exact⟨rfl,rfl⟩
  rw[zf.1,zf.2];rw[hok] at zb;clear zf hok zr hx;go_enter func254,ntmps254
  go_upto_region 1 with fail
  rw[show w.alloc (.cells #[.int .i64 n.t, .bool n.leaf, .slice A n.keys.length c, .slice A2 n.vals.length c2] 113)=w1 from zd.symm]
  unfold UL at zi ze;clear zd zS h;go_wp2_with (refine wpList_load_row rfl 113 _ rfl w.heap.size rfl 113 _ _ _ zi underlying113 rfl ze ?_)
  refine zb.mono ?_;rintro e w2 ⟨rfl,zk⟩;have hB:=Qb zt zk;clear zb zk;go_wp2;go_ret2
  exact⟨none,0,rfl,Nb _ _ _ _,hB⟩
 |true=>
  have zf:Zi n=nodeB n/\Ek n=0:=by unfold Zi Ek;rw[hok];exact⟨rfl,rfl⟩
  rw[zf.1,zf.2];rw[hok] at zb;go_enter func254,ntmps254
  go_upto_region 1 with fail
  rw[show w.alloc (.cells #[.int .i64 n.t, .bool n.leaf, .slice A n.keys.length c, .slice A2 n.vals.length c2] 113)=w1 from zd.symm]
  unfold UL at zi ze;have R:=rightN_of hok;obtain⟨W,hW⟩:=DR (wN n);obtain⟨M,hM⟩:=DR (mN n);obtain⟨tn,zj⟩:∃tn:Nat,n.t=(tn:Int):=⟨n.t.toNat,by have:=R.tl;omega⟩
  obtain⟨fl,zB⟩:=DR (flN n);obtain⟨kn,zg⟩:=DR (n.keys.length);obtain⟨lf,zn⟩:=DR (n.leaf);have zX:=R.wi;have qc:=R.m;have zH:=R.m18;have zz:=R.w24;have zc:=R.v;have qh:=R.tl;have qi:=R.w0;have zq:=R.fit;have zE:=DY (fun g V hg=>cpack6 n fl tn kn W M zB zj zg hW hM (by omega) (by omega) (by omega) (by omega) g V hg);have zx:=DY (fun V=>(show Calls prog 265 #[.bool lf] V fun e w'=>e= .returned (.int .i64 (fl:Int))/\V=w' from by
   rw[zB,zn];unfold flN;have:=flag_any n.leaf V;cases hl:n.leaf
   ·rw[hl] at this;exact this
   ·rw[hl] at this;exact this))
  have zR:=DY (fun V=>(show Calls prog 160 #[.int .i64 (tn:Int), .bool lf] V fun e w'=>e= .returned (.int .i64 (W:Int))/\w'=V from by
   have:=Yn n.t n.leaf V;rw[zX,<-hW,zj,<-zn] at this;exact this.mono fun e w' ⟨h1,h2⟩=>⟨h1,h2.symm⟩))
  have zZ:=DY (fun V=>(show Calls prog 161 #[.int .i64 (tn:Int), .bool lf] V fun e w'=>e= .returned (.int .i64 (M:Int))/\w'=V from by
   have:=YZ n.t n.leaf V;rw[show ZE n.t n.leaf=mN n from rfl,<-hM,zj,<-zn] at this
   exact this.mono fun e w' ⟨h1,h2⟩=>⟨h1,h2.symm⟩))
  have HQ:=DY (fun(V:World) (hb:Below w1.heap.size w1 V)=>(show V.cell? ⟨w.heap.size,0,none⟩=some (.int .i64 (tn:Int))/\V.cell? ⟨w.heap.size,1,none⟩=some (.bool lf)/\V.cell? ⟨w.heap.size,2,none⟩=some (.slice A kn c)/\V.cell? ⟨w.heap.size,3,none⟩=some (.slice A2 kn c2) from by
   have q:=zr.out V hb;rw[<-zj,zn,zg,<-zc];refine⟨q.q0,q.q1,?_,q.q3⟩;rw[zc];exact q.q2))
  have zh:=DY (nodeB_len R);have HZ:=DY (nodeP_zero R);have q6:=DY (fun k j hk hj=>Eu R (k:=k) (j:=j) hk hj);have z1:=DY (fun k hk=>put_key R (k:=k) hk);have z0:=DY (fun k hk=>put_val R (k:=k) hk);have zm:=DY (fun k hk=>Rm R (k:=k) hk);have zv:=DY (fun i hi=>keyE_zero.1 (R.ky i hi));have zo:=DY (fun i hi=>R.vl i hi);rw[<-zg] at q6 z1 z0 zm zv zo qc zc;rw[<-hM] at z0 zm qc zH zq;rw[<-hW] at z0 zm zo zz qi zq;have zU:=DY (show nodeB n=X2 n kn kn by rw[zg];rfl);clear zd zS zf;rw[zj] at zi zb ze ⊢;rw[<-zn,<-zg,zc] at zi zb ze ⊢;have zC:=DY zg;have zu:=DY zc;have zA:(prog.info? 5).map (·.size)=some 1:=by kernel_rfl
  obtain⟨i0,hi,q9,q7,zY⟩:=info_parts Tryz.infoU8;clear hW hM zj zB zg zn zc zX hx h hok qh;go_wp2_with (refine wpList_load_row rfl 113 _ rfl w.heap.size rfl 113 _ _ _ zi underlying113 rfl ze ?_)
  refine zb.mono ?_;rintro e w2 ⟨rfl,zk⟩;have zK:=DY zk;clear zb zi ze;obtain⟨q0,q1,q2,q3⟩:=HQ.out _ zk;clear zk;go_upto_region 3 with fail
  go_cut [4,5] (fun s4 s5 wx=>s4= .int .i64 (W:Int)/\s5= .int .i64 (M:Int)/\∃m,wx=w2.drewN m)
  case first=>
   clear zK zh HZ q6 z1 z0 zm zv zo zU zC zu zE zx HQ zr;go_quiet (first|(go_at_call 160;exact Calls.quiet_of_same (zR.out _))|(go_at_call 161;exact Calls.quiet_of_same (zZ.out _)))
   go_wp2;go_meet
   exact⟨rfl,rfl,_,rfl⟩
  case rest=>
   obtain⟨rfl,rfl,m,rfl⟩:=hcut;have zw:=Qs zK m;generalize w2.drewN m=w3 at*;clear q0 q1 q2 q3;obtain⟨q0,q1,q2,q3⟩:=HQ.out _ zw;have zy:=(Below.refl w3.heap.size w3).drew;have HK:=DY (fun(V V':World) (hb:Below V.heap.size V V') (hS:Below w3.heap.size w3 V/\V.cell? ⟨w.heap.size,0,none⟩=some (.int .i64 (tn:Int))/\V.cell? ⟨w.heap.size,1,none⟩=some (.bool lf)/\V.cell? ⟨w.heap.size,2,none⟩=some (.slice A kn c))=>
    (show Below w3.heap.size w3 V'/\V'.cell? ⟨w.heap.size,0,none⟩=some (.int .i64 (tn:Int))/\V'.cell? ⟨w.heap.size,1,none⟩=some (.bool lf)/\V'.cell? ⟨w.heap.size,2,none⟩=some (.slice A kn c) from⟨Qb hS.1 hb,Qg hb hS.2.1,Qg hb hS.2.2.1,Qg hb hS.2.2.2⟩))
   have zW:=DY zw;clear zK zw zR zZ;go_upto_region 4 with fail
   refine wp_region_held_drew (S:=(fun V=>Below w3.heap.size w3 V/\V.cell? ⟨w.heap.size,0,none⟩=some (.int .i64 (tn:Int))/\V.cell? ⟨w.heap.size,1,none⟩=some (.bool lf)/\V.cell? ⟨w.heap.size,2,none⟩=some (.slice A kn c))) (by kernel_rfl) ?_ (fun hHeld=>?_)
   (focus((try dsimp only);(first|exact⟨zy,q0,q1,q2⟩|assumption|exact HK.out _ _ zN.out hHeld|exact HK.out _ _ (Qd _ _) hHeld)))
   refine QD (.f 0 (.f 1 (.f 4 (.f 5 (.f 6 (.f 7 (.f 8 (.f 9 (.f 10 (.f 11 (.f 12 (.f 13 (.f 14 (.f 15 (.o 2 (.f 3 (.o 16 (.o 17 (.f 18 (.f 19 (.f 20 (.f 21 (.f 22 .e))))))))))))))))))))))) ?_
   repeat' ((first|(refine QL (v:=?_) (hv:=?_) (h:=?_);rotate_left;(focus(first|(refine .inr ⟨by rfl,?_⟩;rfl)|(refine .inl ⟨by rfl,?_⟩;intro w hSw;(try dsimp only at hSw);(try simp only[D8,D4,D5]);go_simp;try(with_reducible rfl)))))|(refine Qr (h:=?_))|(((refine Qx (h:=fun K hK=>?_))<;>((try simp only[D8,D4,D5]);go_simp))<;>((first|(go_at_call 265;refine(zx.out _).mono ?_;rintro e w4 ⟨rfl,rfl⟩)|(go_at_call 164;refine(zE.out _ _ (by exact heap_alloc_new _ _)).mono ?_;rintro e w4 ⟨A4,c4,rfl,za,zN⟩)|skip);refine hK.out _ _ ?_ (fun hHeld=>?_);(focus((try dsimp only);(first|exact⟨zy,q0,q1,q2⟩|assumption|exact HK.out _ _ zN.out hHeld|exact HK.out _ _ (Qd _ _) hHeld)));clear hK K)))<;>(try simp only[Act.put,Nc,Nf,Ng]))
   all_goals (refine Qu ?_;refine wpAnyH_done (by kernel_rfl) ?_ _)
   have zl:=Qb zW hHeld.1;have zT:=Qh.of_own za.out;have HM:=DY (show(madeCells (Value.int .u8 0).cells (244*1)).toList=bv (zs 244) from made_zerosN 244);have HS:=DY (show(bv (zs 244)).take 0++((bv (V7 n)).take (244-0)++(bv (zs 244)).drop (0+(bv (V7 n)).length))=bv (X2 n 0 0) by
    rw[HZ.out,Qm,Yv,List.take_zero,Np,NW (by rw[Qm,Yv];decide),Xj,<-Ze]
    rfl)
   clear hHeld q0 q1 q2 q3 HK zW zN za zE zx HZ zy
   rename_i w4
   go_wp2_with (at_make;refine wpList_make_full _ rfl (.const _) (.const _) _ rfl w1.heap.size 5 i0 _ 1 underlying22 hi q9 q7 .i64 .i64 244 244 244 rfl rfl (by omega) (by omega) (by rw[zY];omega) (by simp only[maxLen];omega) zl.size ?_;intro w5 z2 zG;rw[HM.out] at z2;have zL:Below w1.heap.size w1 w5:=zl.grown zG zl.size (fun k hk=>by cases hk);have zQ:=zT.grown zG (Na _) (fun k hk=>by cases hk);obtain⟨w6,z3,z6,qa,qe⟩:=XY w5 22 22 3 5 underlying22 zA w1.heap.size w4.heap.size 244 244 (bv (zs 244)) z2 0 (by decide) (some ⟨w4.heap.size,0,none⟩) 244 244 (by decide) (fun _=>rfl) w4.heap.size A4 12 c4 (bv (V7 n)) (by rw[Qm,Yv]) zQ (Yz _);rw[HS.out] at z6;have qf:=DY z6;have qd:Hid (Below w1.heap.size w1 w6):=DY (zL.grown qa zL.size (fun k hk=>by cases hk;exact zl.size));obtain⟨-,-,q2,q3⟩:=HQ.out _ qd.out;have z3:(Builtin.copy_ #[22,22] 3 #[.slice (some ⟨w4.heap.size,0,none⟩) 244 244, .slice A4 12 c4]).run prog w5= .ok (.int .i64 12) w6:=z3;clear z6 z2)
   have HG:=DY zl.size;clear zT zl HM HS hi q9 q7 zY z3 zQ zG qa qe zL;generalize w4.heap.size=g at*;go_loopw [9,10,11,12,54] (fun _ _ _ _ s54 wr=>∃k:Nat,k<=kn/\s54= .int .i64 k/\Hid (wr.ownsRow w1.heap.size 5 1 (.slice (some ⟨g,0,none⟩) 244 244) 244 (bv (X2 n k k)))/\Hid (Below w1.heap.size w1 wr)) (fun _ _ _ _ s54 _=>kn-(intOf s54).toNat)
   case atStart=>exact⟨0,by omega,rfl,qf,qd⟩
   case round=>
    obtain⟨k,hkk,rfl,HO,HB⟩:=hrel;by_cases hlt:k<kn
    ·have hci:(k:Int)<(kn:Int):=by omega
     have zO:=(zr.out _ HB).nr;obtain⟨ad,rfl,-,zM⟩:=zO.ky.at_ (k:=k) (by rw[QK,<-zC.out];exact hlt);rw[iv_getD n.keys (by rw[<-zC.out];exact hlt)] at zM;obtain⟨qn,rfl,-,-⟩:=zO.vl.at_ (k:=k) (by rw[RB,zu.out];exact hlt);have HC:=DY (fun(V:World) (hb:Below w1.heap.size w1 V)=>(show V.cell? (qn.add k)=some (.string ⟨(n.vals.getD k []).toArray⟩) from by
      obtain⟨ay,ey,-,c2⟩:=(zr.out _ hb).nr.vl.at_ (k:=k) (by rw[RB,zu.out];exact hlt)
      injection ey with ey
      subst ey;rw[sv_getD n.vals (by rw[zu.out];exact hlt)] at c2;exact c2))
     have zI:=zv.out k hlt;have zc:=zo.out k hlt;have zF:=zm.out (k+1) (by omega);have PK:=DY (z1.out k hlt);have PV:=DY (z0.out k hlt);clear zv zo zm z1 z0 zO;obtain⟨xn,zD⟩:=Int.eq_ofNat_of_zero_le zI.1.1;rw[zD,N3] at PK;rw[zD] at zM;have qg:xn<9223372036854775808:=by have:=zI.1.2;omega
     clear zI zD;generalize n.vals.getD k []=y at*;rw[Nat.mul_succ] at zF;have hP:=cpack1 xn qg;have zV:=HO.out;go_wp2_with fail
     refine(hP _ _ (by exact heap_alloc_new _ _)).mono ?_;rintro e w7 ⟨A7,c7,rfl,z8,q5⟩;have hb7':=Qb (Qd wr _) q5.out;have zJ:=DY (Qb HB hb7');have q4:=Qh.of_own z8.out;have z9:=QT zV hb7';obtain⟨w8,z4,z5,zP,qk⟩:=XY w7 22 22 3 5 underlying22 zA w1.heap.size g 244 244 (bv (X2 n k k)) z9 (12+k*8) (by omega) (some ⟨g,12+k*8,none⟩) (244-(12+k*8)) (244-(12+k*8)) rfl (fun _=>rfl) w7.heap.size A7 8 c7 (bv (leb 8 xn)) (by rw[Qm,QM]) q4 (Yz _);rw[Qm,QM,Xi,Xi,Xj,<-Ze,<-Ze,show(leb 8 xn).take (244-(12+k*8))=leb 8 xn from NW (by rw[QM];omega),LU k 8,PK.out] at z5
     rw[LV (by omega)] at z4;have z4:(Builtin.copy_ #[22,22] 3 #[.slice (some ⟨g,12+k*8,none⟩) (244-(12+k*8)) (244-(12+k*8)), .slice A7 8 c7]).run prog w7= .ok (.int .i64 8) w8:=z4;have zp:=DY (zJ.out.grown zP zJ.out.size (fun j hj=>by cases hj;exact HG.out));have q8:=DY z5;clear hP zM q5 z8 zV hb7' z9 q4 zP qk z5 PK zJ HO HB;obtain⟨-,-,-,q3⟩:=HQ.out _ zp;have hcy:=HC.out _ zp;obtain⟨q,hq⟩:=DR (k*W);have hq9:8*M+(q+W)<=232:=by rw[hq,LU k W];exact zF
     have wq:IntKind.i64.wrap ((k:Int)*(W:Int))=(q:Int):=by
      rw[hq,show((k:Int)*(W:Int))=((k*W:Nat):Int) by simp,Nv,<-hq];omega
     obtain⟨w9,hrun9,z7,qb,qm⟩:=Ox w8.drew 22 9 3 5 underlying22 zA w1.heap.size g 244 244 (bv (X2 n (k+1) k)) q8.out.drew (12+M*8+q) (244-(12+M*8+q)) (244-(12+M*8+q)) y (by omega) (by omega);rw[zc,Xi,Xj,<-Ze,<-Ze,show 12+M*8+q=12+8*M+W*k by rw[hq,LU k W,LU M 8],PV.out] at z7
     have ql:=DY (zp.out.drew.grown qb zp.out.drew.size (fun j hj=>by cases hj;exact HG.out));have qj:=DY z7;clear qb qm z7 q8 PV HC zF hq zp;go_upto_region 12 with fail
     go_region
     go_wp2;go_roundw
     case rel=>exact⟨k+1,by omega,by go_num,qj,ql⟩
     case measure=>simp[intOf];omega
    ·obtain rfl:k=kn:=by omega
     have hB:=Qb zt HB;have ho:=Q7 HO zt.out.size;clear HO HB;go_wp2;go_ret2
     exact⟨some ⟨g,0,none⟩,244,by rw[Qm,zh.out];rfl,by rw[Qm,zh.out,zU.out];exact ho,hB⟩
theorem Tryz.infoStrN:(prog.info? 9).map (fun i=>(i.zero,i.size,i.bytes))=some (some (.string ByteArray.empty),1,16):=by kernel_rfl
theorem Qo(W:World)(b i:Nat)(v:Value):W.grownBy (W.setCell ⟨b,i,none⟩ v) (some b):=
 ⟨rfl,rfl,rfl,(KeepsWalks.setCell W _ v).size,fun k _ hk=>Below.heap_setCell _ _ _ k (fun e=>hk (by rw[e]))⟩
theorem own_neN{w:World}{B1 B2 e1 e2 n1 n2:Nat}{v1 v2:Value}{xs ys:List Value}(h1:w.ownsRow B1 e1 1 v1 n1 xs)(h2:w.ownsRow B2 e2 1 v2 n2 ys)(he:e1≠e2):v1.ownBlock=none∨v1.ownBlock≠v2.ownBlock:=by
 rcases h1.2 with⟨rfl,_⟩|⟨g,cap,cur,rfl,_,hg,_⟩
 ·exact .inl rfl
 ·right
  exact Qi hg he h2
structure Vq(w:World)(base b:Nat)(n:QF)(A:Option Addr)(c:Nat)(A2:Option Addr)(c2:Nat):Prop where
 bx:w.heap[b]?=some (.cells (UL n A c A2 c2) 113)
 k:w.ownsRow base 3 1 (.slice A n.keys.length c) n.keys.length (iv n.keys)
 v:w.ownsRow base 9 1 (.slice A2 n.vals.length c2) n.vals.length (sv n.vals)
 ge:base<=b
section
variable {w w':World} {base b:Nat} {n:QF} {A A2:Option Addr} {c c2:Nat}
theorem Xy{e m:Nat}{xs:List Value}(h:w.ownsRow base e 1 (.slice A m c) m xs):m<=c:=by
 rcases h.2 with⟨hv,hz⟩|⟨g',cap,cur,hv,_,_,hnc,_⟩
 ·omega
 ·injection hv with e1 e2 e3
  omega
theorem Vq.lt(h:Vq w base b n A c A2 c2):b<w.heap.size:=Zv h.bx
theorem Vq.cells(h:Vq w base b n A c A2 c2):w.cell? ⟨b,0,none⟩=some (.int .i64 n.t)/\w.cell? ⟨b,1,none⟩=some (.bool n.leaf)/\w.cell? ⟨b,2,none⟩=some (.slice A n.keys.length c)/\w.cell? ⟨b,3,none⟩=some (.slice A2 n.vals.length c2):=
 ⟨Qa h.bx 0 rfl,Qa h.bx 1 rfl,Qa h.bx 2 rfl,Qa h.bx 3 rfl⟩
theorem Vq.read(h:Vq w base b n A c A2 c2):OW w w.heap.size n A c A2 c2:=⟨Qh.of_own h.k,Qh.of_own h.v,Xy h.k,Xy h.v⟩
theorem Vq.keep(h:Vq w base b n A c A2 c2)(hb:Below w.heap.size w w'):Vq w' base b n A c A2 c2:=⟨Qe h.bx hb,QT h.k hb,QT h.v hb,h.ge⟩
theorem Vq.new(w:World)(t:Int)(lf:Bool)(w':World)(base:Nat)(hB:base<=w.heap.size)(h:w'.heap[w.heap.size]?=some (.cells #[.int .i64 t, .bool lf, .slice none 0 0, .slice none 0 0] 113)):
  Vq w' base w.heap.size ⟨t,lf,[],[]⟩ none 0 none 0:=⟨h,Nb _ _ _ _,Nb _ _ _ _,hB⟩
theorem Vq.key(h:Vq w base b n A c A2 c2)(x:Int)(A':Option Addr)(c' m:Nat)(hm:m=n.keys.length+1)(w2:World)(ho:w2.ownsRow base 3 1 (.slice A' m c') m (iv n.keys++[.int .i64 x]))(hg:w.grownBy w2 (Value.slice A n.keys.length c).ownBlock):
  Vq (w2.setCell ⟨b,2,none⟩ (.slice A' m c')) base b ⟨n.t,n.leaf,n.keys++[x],n.vals⟩ A' c' A2 c2/\w2.cell? ⟨b,2,none⟩=some (.slice A n.keys.length c)/\w2.frozen? ⟨b,2,none⟩=false/\Below base w (w2.setCell ⟨b,2,none⟩ (.slice A' m c')):=by
 subst hm;have z3:=Qi h.bx (by decide) h.k;have z0:w2.heap[b]?=some (.cells (UL n A c A2 c2) 113):=by
  obtain⟨_,_,_,_,hk⟩:=hg;rw[hk b h.lt (fun e=>z3 (by first|exact e|exact e.symm))];exact h.bx
 have h1:=heap_setCell_same w2 b 2 (UL n A c A2 c2) 113 (.slice A' (n.keys.length+1) c') z0;have z2:=h.v.kept hg (own_neN h.v h.k (by decide));have z1:=Qo w2 b 2 (.slice A' (n.keys.length+1) c');refine⟨⟨?_,?_,?_,h.ge⟩,Qa z0 2 rfl,Qf z0 2,?_⟩
 ·rw[h1];simp[UL]
 ·have:=ho.kept z1 (.inr (Qi z0 (by decide) ho).symm);rw[Xb,D7];exact this
 ·exact z2.kept z1 (.inr (Qi z0 (by decide) z2).symm)
 ·have hB:base<=w.heap.size:=D3 h.ge (Lk h.lt);have b1:Below base w w2:=ZF h.k hB hg;exact b1.grown z1 (D3 hB hg.size) (fun k hk=>by cases hk;exact h.ge)
theorem Vq.val(h:Vq w base b n A c A2 c2)(x:List UInt8)(A':Option Addr)(c' m:Nat)(hm:m=n.vals.length+1)(w2:World)(ho:w2.ownsRow base 9 1 (.slice A' m c') m (sv n.vals++[.string ⟨x.toArray⟩]))(hg:w.grownBy w2 (Value.slice A2 n.vals.length c2).ownBlock):
  Vq (w2.setCell ⟨b,3,none⟩ (.slice A' m c')) base b ⟨n.t,n.leaf,n.keys,n.vals++[x]⟩ A c A' c'/\w2.cell? ⟨b,3,none⟩=some (.slice A2 n.vals.length c2)/\w2.frozen? ⟨b,3,none⟩=false/\Below base w (w2.setCell ⟨b,3,none⟩ (.slice A' m c')):=by
 subst hm;have z3:=Qi h.bx (by decide) h.v;have z0:w2.heap[b]?=some (.cells (UL n A c A2 c2) 113):=by
  obtain⟨_,_,_,_,hk⟩:=hg;rw[hk b h.lt (fun e=>z3 (by first|exact e|exact e.symm))];exact h.bx
 have h1:=heap_setCell_same w2 b 3 (UL n A c A2 c2) 113 (.slice A' (n.vals.length+1) c') z0;have z2:=h.k.kept hg (own_neN h.k h.v (by decide));have z1:=Qo w2 b 3 (.slice A' (n.vals.length+1) c');refine⟨⟨?_,?_,?_,h.ge⟩,Qa z0 3 rfl,Qf z0 3,?_⟩
 ·rw[h1];simp[UL]
 ·exact z2.kept z1 (.inr (Qi z0 (by decide) z2).symm)
 ·have:=ho.kept z1 (.inr (Qi z0 (by decide) ho).symm);rw[sv_append,D7];exact this
 ·have hB:base<=w.heap.size:=D3 h.ge (Lk h.lt);have b1:Below base w w2:=ZF h.v hB hg;exact b1.grown z1 (D3 hB hg.size) (fun k hk=>by cases hk;exact h.ge)
end
end Go.Proofs.YtijcgllddnpmhaaGreatDoor
