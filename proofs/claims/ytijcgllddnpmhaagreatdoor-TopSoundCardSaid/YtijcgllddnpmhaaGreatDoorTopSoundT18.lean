/- TopSound: lemmas, part 18. -/
import Derived.Test.YtijcgllddnpmhaaGreatDoorTopSoundT16
set_option maxRecDepth 100000
set_option maxHeartbeats 16000000
set_option linter.all false
namespace Go.Proofs.YtijcgllddnpmhaaGreatDoor
open Go.RowKit Go.Proofs.Tryz
section
open Go.RowKit Go.Shelf
attribute [local go_sem] Oper.semAt_some
theorem Up(b o n c:Nat)(h:1<=n):∃A,(∀V,(Instr.slice 137 (.slice (some ⟨b,o,none⟩) n c) (some (.int .i64 1)) none none).run prog V= .ok (.slice A (n-1) (c-1)) V)/\(c≠1->A=some ⟨b,o+3,none⟩):=by
 refine⟨if c=1 then some ⟨b,o,none⟩ else some ⟨b,o+3,none⟩,fun V=>?_,fun hc=>if_neg hc⟩
 rw[run_slice_l V 137 (some ⟨b,o,none⟩) n c (by kernel_rfl) .i64 1 (by decide) (by omega)];by_cases hc:c=1
 ·go_simp
 ·go_simp
theorem pairs1_in(n:Nat)(hn:1<=n)(lp ba bb n₀ ab ao tb to_:Nat)(D T:List Qv)(hD:D.length<=18000000)(hT:T.length<=18000000)(hne:ba≠bb)(J Jx:List (Option Nat×Option Nat)->World->Prop)
  (hY:∀z8 x W,J z8 W->(∃r,Q8 D T (D.length+T.length) 0 0=(z8++[x])++r)->YieldAt Fence.wide (n-1) prog lp #[Vx ab ao x.1,Vx tb to_ x.2] W fun e W'=>
   (e= .returned (.bool true)/\J (z8++[x]) W'/\KpC n₀ ba bb W W')∨(e= .returned (.bool false)/\Jx (z8++[x]) W'))
  (hJ:∀s A B,QS ba bb A B/\KeepsOthers A B->J s A->J s B)
  (W:World) (ha:VT W ba D ab ao 0) (hb:VT W bb T tb to_ 0) (zW:n₀<=ba) (zU:n₀<=bb) (zT:n₀<=W.heap.size) (zX:Oi W n₀ ab ao D) (zR:Oi W n₀ tb to_ T) (h0:J [] W):
  CallsIn Fence.wide n prog 188 #[.func (.yield lp) #[] #[], .pointer (some ⟨ba,0,none⟩), .pointer (some ⟨bb,0,none⟩)] W fun e W'=>(∃v,e= .returned v)/\
   ((∃ys,ys=Q8 D T (D.length+T.length) 0 0/\J ys W')∨(∃z8,(∃k,k<=D.length+T.length/\z8=(Q8 D T (D.length+T.length) 0 0).take k)/\Jx z8 W')):=by
 obtain⟨zy,zx⟩:=DR (Q8 D T (D.length+T.length) 0 0);rw[<-zx];have zn:=DY zx;have HY:=DY hY;have HJ:=DY hJ;have HA:=DY (DZ ha hb);have HB:=DY (DZ zW (DZ zU zT));have HK:=DY (DZ zX zR);have HDT:=DY (And.intro hD hT);have zk:=DY hne;have HN:=DY hn;clear zx hY hJ ha hb zW zU zT zX zR hD hT hne;refine callsIn_of_wp func188 rfl trivial ?_ rfl;simp only[ntmps188,List.size_toArray,No,NV,N9,La,NJ,NK,NR,NM,Np,NH];gi_wp2;gi_loopw [4,5] (fun x y wr=>∃(k i j:Nat) (z8:List (Option Nat×Option Nat)),Hid (z8.length=k/\k<=i+j/\i<=D.length/\j<=T.length/\J z8 wr/\VT wr ba D ab ao i/\VT wr bb T tb to_ j/\Below n₀ W wr/\zy=z8++Q8 D T (D.length+T.length-k) i j))
  (fun x y wr=>slLen (wr.cell? ⟨ba,0,none⟩)+slLen (wr.cell? ⟨bb,0,none⟩))
 case atStart=>exact⟨0,0,0,[],DY ⟨rfl,Na _,Lb _,Lb _,h0,HA.out.1,HA.out.2,D6 _ _,zn.out⟩⟩
 case round=>
  obtain⟨k,i,j,z8,HH⟩:=hrel;obtain⟨zS,zI,hi,hj,zV,zG,zF,zE,zQ⟩:=HH.out;have zD:=DY zV;have HP:=DY (And.intro zS (DZ zI (DZ hi (DZ hj (DZ zE zQ)))));have zg:=DY zG;have zf:=DY zF;clear zV zE zQ zS zI HH;obtain⟨-,A1,c1,zL,zB,q6⟩:=zG;obtain⟨-,A2,c2,zJ,zz,q0⟩:=zF;obtain⟨la,zC⟩:∃la,D.length-i=la:=⟨_,rfl⟩;obtain⟨lb,zA⟩:∃lb,T.length-j=lb:=⟨_,rfl⟩;rw[zC] at zL q6;rw[zA] at zJ q0;have ze:=DY (And.intro zC zA);have ca:=Qa zL 0 rfl;have cb:=Qa zJ 0 rfl;have fa:=Qf zL 0;have fb:=Qf zJ 0;have z3:=DY (And.intro zL zJ);clear zL zJ;by_cases h1:i<D.length
  ·by_cases h2:j<T.length
   ·obtain rfl:=zB h1;obtain rfl:=zz h2;have kx:wr.cell? ⟨ab,ao+i*3,none⟩=some (.int .i64 (Zr D i)):=by
     have:=HK.out.1.2 i D[i] (D1 h1);rw[(HP.out.2.2.2.2.1.cell (p:=⟨ab,ao+i*3,none⟩) HK.out.1.1).trans this];unfold Zr;rw[D9,D1 h1]
     rfl
    have ky:wr.cell? ⟨tb,to_+j*3,none⟩=some (.int .i64 (Zr T j)):=by
     have:=HK.out.2.2 j T[j] (D1 h2);rw[(HP.out.2.2.2.2.1.cell (p:=⟨tb,to_+j*3,none⟩) HK.out.2.1).trans this];unfold Zr;rw[D9,D1 h2]
     rfl
    have q7:0<la:=by omega
    have zO:(0:Int)<(la:Int):=by omega
    have zZ:(1:Int)<=(la:Int):=by omega
    have q5:1<=c1:=by omega
    have q3:(la:Int)<=(c1:Int):=by omega
    have qc:decide ((0:Int)<(la:Int))=true:=decide_eq_true zO;have q9:((la:Int)==0)=false:=by rw[beq_eq_false_iff_ne];omega
    obtain⟨Aa,q1,zH⟩:=Up ab (ao+i*3) la c1 (by omega);have zM:=Lib.hid (show 2<=la->Aa=some ⟨ab,ao+i*3+3,none⟩ from fun h=>zH (by omega));clear zH;have q4:0<lb:=by omega
    have zP:(0:Int)<(lb:Int):=by omega
    have qd:(1:Int)<=(lb:Int):=by omega
    have q2:1<=c2:=by omega
    have qb:(lb:Int)<=(c2:Int):=by omega
    have qa:decide ((0:Int)<(lb:Int))=true:=decide_eq_true zP;have q8:((lb:Int)==0)=false:=by rw[beq_eq_false_iff_ne];omega
    obtain⟨Ba,zY,zK⟩:=Up tb (to_+j*3) lb c2 (by omega);have zN:=Lib.hid (show 2<=lb->Ba=some ⟨tb,to_+j*3+3,none⟩ from fun h=>zK (by omega));clear zK;have z1:=Lib.hid (show i<D.length/\j<T.length from⟨h1,h2⟩);have zt:=Lib.hid (show prX D T i j=decide (Zr D i<=Zr T j)/\prX T D j i=decide (Zr T j<=Zr D i) by
     unfold prX;rw[decide_eq_true h1,decide_eq_true h2,decide_eq_false (show¬T.length<=j by omega),decide_eq_false (show¬D.length<=i by omega)];exact⟨rfl,rfl⟩)
    clear zC zA h1 h2 zB zz hi hj;generalize Zr D i=x0 at*;generalize Zr T j=y0 at*;by_cases hxy:x0<=y0
    ·by_cases hyx:y0<=x0
     ·have d1:decide (x0<=y0)=true:=decide_eq_true hxy;have d2:decide (y0<=x0)=true:=decide_eq_true hyx;have zi:=DY (show prX D T i j=true/\prX T D j i=true by rw[zt.out.1,zt.out.2,d1,d2];exact⟨rfl,rfl⟩);clear hxy hyx zt;gi_wp2;refine wpIn_wide.2 ?_;go_quiet (fail)
      have zb:=DY (show QS ba bb wr (wr.drewN nq) from QS.of_below (Qs (D6 _ _) nq));have z7:=DY (show(wr.drewN nq).heap=wr.heap from rfl);replace ca:(wr.drewN nq).cell? ⟨ba,0,none⟩=some (.slice (some ⟨ab,ao+i*3,none⟩) la c1):=ca;replace cb:(wr.drewN nq).cell? ⟨bb,0,none⟩=some (.slice (some ⟨tb,to_+j*3,none⟩) lb c2):=cb;replace fa:(wr.drewN nq).frozen? ⟨ba,0,none⟩=false:=fa;replace fb:(wr.drewN nq).frozen? ⟨bb,0,none⟩=false:=fb;replace kx:(wr.drewN nq).cell? ⟨ab,ao+i*3,none⟩=some (.int .i64 x0):=kx;replace ky:(wr.drewN nq).cell? ⟨tb,to_+j*3,none⟩=some (.int .i64 y0):=ky;generalize wr.drewN nq=w1 at*;gi_wp2;refine wpIn_wide.2 ?_;go_quiet (fail)
      have zc:=DY (show QS ba bb w1 (w1.drewN nq) from QS.of_below (Qs (D6 _ _) nq));have z5:=DY (show(w1.drewN nq).heap=w1.heap from rfl);replace ca:(w1.drewN nq).cell? ⟨ba,0,none⟩=some (.slice (some ⟨ab,ao+i*3,none⟩) la c1):=ca;replace cb:(w1.drewN nq).cell? ⟨bb,0,none⟩=some (.slice (some ⟨tb,to_+j*3,none⟩) lb c2):=cb;replace fa:(w1.drewN nq).frozen? ⟨ba,0,none⟩=false:=fa;replace fb:(w1.drewN nq).frozen? ⟨bb,0,none⟩=false:=fb;replace kx:(w1.drewN nq).cell? ⟨ab,ao+i*3,none⟩=some (.int .i64 x0):=kx;replace ky:(w1.drewN nq).cell? ⟨tb,to_+j*3,none⟩=some (.int .i64 y0):=ky;generalize w1.drewN nq=w3 at*;have zp:=DY (QS.of_grown1 (b1:=ba) (b2:=bb) (Qo w3 ba 0 (.slice Aa (la-1) (c1-1))));have zo:=DY (QS.of_grown2 (b1:=ba) (b2:=bb) (Qo (w3.setCell ⟨ba,0,none⟩ (.slice Aa (la-1) (c1-1))) bb 0 (.slice Ba (lb-1) (c2-1))));have za:=DY (((zb.out.trans zc).trans zp).trans zo);have z2:w3.heap[ba]?=wr.heap[ba]?:=by rw[z5.out,z7.out]
      have z0:w3.heap[bb]?=wr.heap[bb]?:=by rw[z5.out,z7.out]
      have zl:=DY (show VT ((w3.setCell ⟨ba,0,none⟩ (.slice Aa (la-1) (c1-1))).setCell ⟨bb,0,none⟩ (.slice Ba (lb-1) (c2-1))) ba D ab ao (i+1) from by
       refine⟨by have:=z1.out;omega,Aa,(c1-1),?_,?_,?_⟩
       ·rw[heap_setCell_other _ _ _ _ (by intro e;first|exact zk.out e|exact zk.out e.symm)];rw[heap_setCell_same w3 ba 0 _ _ _ (z2.trans z3.out.1)];have:D.length-(i+1)=(la-1):=by have:=ze.out;have:=z1.out;omega
        rw[this];simp
       ·intro h;have:=ze.out;rw[zM.out (by omega),show ao+(i+1)*3=ao+i*3+3 by omega]
       ·have:=ze.out;omega)
      have zj:=DY (show VT ((w3.setCell ⟨ba,0,none⟩ (.slice Aa (la-1) (c1-1))).setCell ⟨bb,0,none⟩ (.slice Ba (lb-1) (c2-1))) bb T tb to_ (j+1) from by
       refine⟨by have:=z1.out;omega,Ba,(c2-1),?_,?_,?_⟩
       ·rw[heap_setCell_same _ bb 0 _ _ _ ((heap_setCell_other _ _ _ _ (by intro e;first|exact zk.out e|exact zk.out e.symm)).trans (z0.trans z3.out.2))];have:T.length-(j+1)=(lb-1):=by have:=ze.out;have:=z1.out;omega
        rw[this];simp
       ·intro h;have:=ze.out;rw[zN.out (by omega),show to_+(j+1)*3=to_+j*3+3 by omega]
       ·have:=ze.out;omega)
      have z9:=DY (show zy=(z8++[((some i,some j):Option Nat×Option Nat)])++Q8 D T (D.length+T.length-(k+1)) (i+1) (j+1) by
       rw[HP.out.2.2.2.2.2,Yd D T k i j (by have:=HP.out;have:=z1.out;omega) (by have:=z1.out;omega),zi.out.1,zi.out.2];simp)
      obtain⟨fn,zs,zd,zu,hy,hR⟩:=HY.out z8 ((some i,some j):Option Nat×Option Nat) ((w3.setCell ⟨ba,0,none⟩ (.slice Aa (la-1) (c1-1))).setCell ⟨bb,0,none⟩ (.slice Ba (lb-1) (c2-1))) (HJ.out _ _ _ ⟨za.out,za.out.others (fun o ho=>by rw[z3.out.1] at ho;cases ho;rfl) (fun o ho=>by rw[z3.out.2] at ho;cases ho;rfl)⟩ zD) ⟨_,zn.out.symm.trans z9⟩;dsimp only[Vx] at hy;have zw:=DY (show Below n₀ W ((w3.setCell ⟨ba,0,none⟩ (.slice Aa (la-1) (c1-1))).setCell ⟨bb,0,none⟩ (.slice Ba (lb-1) (c2-1))) from XA HP.out.2.2.2.2.1 za HB.out.1 HB.out.2.1 HB.out.2.2)
      have zq:(w3.setCell ⟨ba,0,none⟩ (.slice Aa (la-1) (c1-1))).heap[bb]?=wr.heap[bb]?:=(heap_setCell_other _ _ _ _ (by intro e;first|exact zk.out e|exact zk.out e.symm)).trans z0;have cb2:=Qa (zq.trans z3.out.2) 0 rfl;have fb2:=Qf (zq.trans z3.out.2) 0;clear zq;clear z2 z0;gi_wp2;refine hR.mono ?_;rintro e W3 (⟨rfl,zh,zm⟩|⟨rfl,z6⟩)
      ·have zv:=DY zh;have z4:=DY zm;clear zh zm hR hy;gi_wp2;go_roundw
       case rel=>exact⟨k+1,(i+1),(j+1),z8++[((some i,some j):Option Nat×Option Nat)],DY ⟨by rw[List.length_append,HP.out.1];rfl,by have:=HP.out;omega,by have:=z1.out;omega,by have:=z1.out;omega,zv.out,zl.out.same z4.out.2.1,zj.out.same z4.out.2.2,zw.out.trans z4.out.1,z9.out⟩⟩
       case measure=>
        rw[(zl.out.same z4.out.2.1).len,(zj.out.same z4.out.2.2).len,zg.out.len,zf.out.len];have:=z1.out;omega
      ·have zr:=DY z6;clear z6 hR hy;gi_wp2;refine bodyPost_ret (results_none rfl _ _ _) rfl ?_;exact⟨⟨_,rfl⟩, .inr ⟨_,⟨k+1,by have:=HP.out;have:=z1.out;omega,by rw[z9.out];exact(JO _ _ (by rw[D7,HP.out.1];rfl)).symm⟩,zr.out⟩⟩
     ·have d1:decide (x0<=y0)=true:=decide_eq_true hxy;have d2:decide (y0<=x0)=false:=decide_eq_false hyx;have zi:=DY (show prX D T i j=true/\prX T D j i=false by rw[zt.out.1,zt.out.2,d1,d2];exact⟨rfl,rfl⟩);clear hxy hyx zt;gi_wp2;refine wpIn_wide.2 ?_;go_quiet (fail)
      have zb:=DY (show QS ba bb wr (wr.drewN nq) from QS.of_below (Qs (D6 _ _) nq));have z7:=DY (show(wr.drewN nq).heap=wr.heap from rfl);replace ca:(wr.drewN nq).cell? ⟨ba,0,none⟩=some (.slice (some ⟨ab,ao+i*3,none⟩) la c1):=ca;replace cb:(wr.drewN nq).cell? ⟨bb,0,none⟩=some (.slice (some ⟨tb,to_+j*3,none⟩) lb c2):=cb;replace fa:(wr.drewN nq).frozen? ⟨ba,0,none⟩=false:=fa;replace fb:(wr.drewN nq).frozen? ⟨bb,0,none⟩=false:=fb;replace kx:(wr.drewN nq).cell? ⟨ab,ao+i*3,none⟩=some (.int .i64 x0):=kx;replace ky:(wr.drewN nq).cell? ⟨tb,to_+j*3,none⟩=some (.int .i64 y0):=ky;generalize wr.drewN nq=w1 at*;gi_wp2;refine wpIn_wide.2 ?_;go_quiet (fail)
      have zc:=DY (show QS ba bb w1 (w1.drewN nq) from QS.of_below (Qs (D6 _ _) nq));have z5:=DY (show(w1.drewN nq).heap=w1.heap from rfl);replace ca:(w1.drewN nq).cell? ⟨ba,0,none⟩=some (.slice (some ⟨ab,ao+i*3,none⟩) la c1):=ca;replace cb:(w1.drewN nq).cell? ⟨bb,0,none⟩=some (.slice (some ⟨tb,to_+j*3,none⟩) lb c2):=cb;replace fa:(w1.drewN nq).frozen? ⟨ba,0,none⟩=false:=fa;replace fb:(w1.drewN nq).frozen? ⟨bb,0,none⟩=false:=fb;replace kx:(w1.drewN nq).cell? ⟨ab,ao+i*3,none⟩=some (.int .i64 x0):=kx;replace ky:(w1.drewN nq).cell? ⟨tb,to_+j*3,none⟩=some (.int .i64 y0):=ky;generalize w1.drewN nq=w3 at*;have zp:=DY (QS.of_grown1 (b1:=ba) (b2:=bb) (Qo w3 ba 0 (.slice Aa (la-1) (c1-1))));have za:=DY ((zb.out.trans zc).trans zp);have z2:w3.heap[ba]?=wr.heap[ba]?:=by rw[z5.out,z7.out]
      have z0:w3.heap[bb]?=wr.heap[bb]?:=by rw[z5.out,z7.out]
      have zl:=DY (show VT (w3.setCell ⟨ba,0,none⟩ (.slice Aa (la-1) (c1-1))) ba D ab ao (i+1) from by
       refine⟨by have:=z1.out;omega,Aa,(c1-1),?_,?_,?_⟩
       ·skip
        rw[heap_setCell_same w3 ba 0 _ _ _ (z2.trans z3.out.1)];have:D.length-(i+1)=(la-1):=by have:=ze.out;have:=z1.out;omega
        rw[this];simp
       ·intro h;have:=ze.out;rw[zM.out (by omega),show ao+(i+1)*3=ao+i*3+3 by omega]
       ·have:=ze.out;omega)
      have zj:=DY (show VT (w3.setCell ⟨ba,0,none⟩ (.slice Aa (la-1) (c1-1))) bb T tb to_ j from by
       refine zf.out.same ?_;rw[heap_setCell_other _ _ _ _ (by intro e;first|exact zk.out e|exact zk.out e.symm)];exact z0)
      have z9:=DY (show zy=(z8++[((some i,none):Option Nat×Option Nat)])++Q8 D T (D.length+T.length-(k+1)) (i+1) j by
       rw[HP.out.2.2.2.2.2,Yd D T k i j (by have:=HP.out;have:=z1.out;omega) (by have:=z1.out;omega),zi.out.1,zi.out.2];simp)
      obtain⟨fn,zs,zd,zu,hy,hR⟩:=HY.out z8 ((some i,none):Option Nat×Option Nat) (w3.setCell ⟨ba,0,none⟩ (.slice Aa (la-1) (c1-1))) (HJ.out _ _ _ ⟨za.out,za.out.others (fun o ho=>by rw[z3.out.1] at ho;cases ho;rfl) (fun o ho=>by rw[z3.out.2] at ho;cases ho;rfl)⟩ zD) ⟨_,zn.out.symm.trans z9⟩;dsimp only[Vx] at hy;have zw:=DY (show Below n₀ W (w3.setCell ⟨ba,0,none⟩ (.slice Aa (la-1) (c1-1))) from XA HP.out.2.2.2.2.1 za HB.out.1 HB.out.2.1 HB.out.2.2)
      clear z2 z0;gi_wp2;refine hR.mono ?_;rintro e W3 (⟨rfl,zh,zm⟩|⟨rfl,z6⟩)
      ·have zv:=DY zh;have z4:=DY zm;clear zh zm hR hy;gi_wp2;go_roundw
       case rel=>exact⟨k+1,(i+1),j,z8++[((some i,none):Option Nat×Option Nat)],DY ⟨by rw[D7,HP.out.1];rfl,by have:=HP.out;omega,by have:=z1.out;omega,by have:=z1.out;omega,zv.out,zl.out.same z4.out.2.1,zj.out.same z4.out.2.2,zw.out.trans z4.out.1,z9.out⟩⟩
       case measure=>
        rw[(zl.out.same z4.out.2.1).len,(zj.out.same z4.out.2.2).len,zg.out.len,zf.out.len];have:=z1.out;omega
      ·have zr:=DY z6;clear z6 hR hy;gi_wp2;refine bodyPost_ret (results_none rfl _ _ _) rfl ?_;exact⟨⟨_,rfl⟩, .inr ⟨_,⟨k+1,by have:=HP.out;have:=z1.out;omega,by rw[z9.out];exact(JO _ _ (by rw[D7,HP.out.1];rfl)).symm⟩,zr.out⟩⟩
    ·have d1:decide (x0<=y0)=false:=decide_eq_false hxy;have d2:decide (y0<=x0)=true:=decide_eq_true (by omega);have zi:=DY (show prX D T i j=false/\prX T D j i=true by rw[zt.out.1,zt.out.2,d1,d2];exact⟨rfl,rfl⟩);clear hxy zt;gi_wp2;refine wpIn_wide.2 ?_;go_quiet (fail)
     have zb:=DY (show QS ba bb wr (wr.drewN nq) from QS.of_below (Qs (D6 _ _) nq));have z7:=DY (show(wr.drewN nq).heap=wr.heap from rfl);replace ca:(wr.drewN nq).cell? ⟨ba,0,none⟩=some (.slice (some ⟨ab,ao+i*3,none⟩) la c1):=ca;replace cb:(wr.drewN nq).cell? ⟨bb,0,none⟩=some (.slice (some ⟨tb,to_+j*3,none⟩) lb c2):=cb;replace fa:(wr.drewN nq).frozen? ⟨ba,0,none⟩=false:=fa;replace fb:(wr.drewN nq).frozen? ⟨bb,0,none⟩=false:=fb;replace kx:(wr.drewN nq).cell? ⟨ab,ao+i*3,none⟩=some (.int .i64 x0):=kx;replace ky:(wr.drewN nq).cell? ⟨tb,to_+j*3,none⟩=some (.int .i64 y0):=ky;generalize wr.drewN nq=w1 at*;gi_wp2;refine wpIn_wide.2 ?_;go_quiet (fail)
     have zc:=DY (show QS ba bb w1 (w1.drewN nq) from QS.of_below (Qs (D6 _ _) nq));have z5:=DY (show(w1.drewN nq).heap=w1.heap from rfl);replace ca:(w1.drewN nq).cell? ⟨ba,0,none⟩=some (.slice (some ⟨ab,ao+i*3,none⟩) la c1):=ca;replace cb:(w1.drewN nq).cell? ⟨bb,0,none⟩=some (.slice (some ⟨tb,to_+j*3,none⟩) lb c2):=cb;replace fa:(w1.drewN nq).frozen? ⟨ba,0,none⟩=false:=fa;replace fb:(w1.drewN nq).frozen? ⟨bb,0,none⟩=false:=fb;replace kx:(w1.drewN nq).cell? ⟨ab,ao+i*3,none⟩=some (.int .i64 x0):=kx;replace ky:(w1.drewN nq).cell? ⟨tb,to_+j*3,none⟩=some (.int .i64 y0):=ky;generalize w1.drewN nq=w3 at*;have zo:=DY (QS.of_grown2 (b1:=ba) (b2:=bb) (Qo w3 bb 0 (.slice Ba (lb-1) (c2-1))));have za:=DY ((zb.out.trans zc).trans zo);have z2:w3.heap[ba]?=wr.heap[ba]?:=by rw[z5.out,z7.out]
     have z0:w3.heap[bb]?=wr.heap[bb]?:=by rw[z5.out,z7.out]
     have zl:=DY (show VT (w3.setCell ⟨bb,0,none⟩ (.slice Ba (lb-1) (c2-1))) ba D ab ao i from by
      refine zg.out.same ?_;rw[heap_setCell_other _ _ _ _ (by intro e;first|exact zk.out e|exact zk.out e.symm)];exact z2)
     have zj:=DY (show VT (w3.setCell ⟨bb,0,none⟩ (.slice Ba (lb-1) (c2-1))) bb T tb to_ (j+1) from by
      refine⟨by have:=z1.out;omega,Ba,(c2-1),?_,?_,?_⟩
      ·rw[heap_setCell_same _ bb 0 _ _ _ ((z0.trans z3.out.2))];have:T.length-(j+1)=(lb-1):=by have:=ze.out;have:=z1.out;omega
       rw[this];simp
      ·intro h;have:=ze.out;rw[zN.out (by omega),show to_+(j+1)*3=to_+j*3+3 by omega]
      ·have:=ze.out;omega)
     have z9:=DY (show zy=(z8++[((none,some j):Option Nat×Option Nat)])++Q8 D T (D.length+T.length-(k+1)) i (j+1) by
      rw[HP.out.2.2.2.2.2,Yd D T k i j (by have:=HP.out;have:=z1.out;omega) (by have:=z1.out;omega),zi.out.1,zi.out.2];simp)
     obtain⟨fn,zs,zd,zu,hy,hR⟩:=HY.out z8 ((none,some j):Option Nat×Option Nat) (w3.setCell ⟨bb,0,none⟩ (.slice Ba (lb-1) (c2-1))) (HJ.out _ _ _ ⟨za.out,za.out.others (fun o ho=>by rw[z3.out.1] at ho;cases ho;rfl) (fun o ho=>by rw[z3.out.2] at ho;cases ho;rfl)⟩ zD) ⟨_,zn.out.symm.trans z9⟩;dsimp only[Vx] at hy;have zw:=DY (show Below n₀ W (w3.setCell ⟨bb,0,none⟩ (.slice Ba (lb-1) (c2-1))) from XA HP.out.2.2.2.2.1 za HB.out.1 HB.out.2.1 HB.out.2.2)
     clear z2 z0;gi_wp2;refine hR.mono ?_;rintro e W3 (⟨rfl,zh,zm⟩|⟨rfl,z6⟩)
     ·have zv:=DY zh;have z4:=DY zm;clear zh zm hR hy;gi_wp2;go_roundw
      case rel=>exact⟨k+1,i,(j+1),z8++[((none,some j):Option Nat×Option Nat)],DY ⟨by rw[D7,HP.out.1];rfl,by have:=HP.out;omega,by have:=z1.out;omega,by have:=z1.out;omega,zv.out,zl.out.same z4.out.2.1,zj.out.same z4.out.2.2,zw.out.trans z4.out.1,z9.out⟩⟩
      case measure=>
       rw[(zl.out.same z4.out.2.1).len,(zj.out.same z4.out.2.2).len,zg.out.len,zf.out.len];have:=z1.out;omega
     ·have zr:=DY z6;clear z6 hR hy;gi_wp2;refine bodyPost_ret (results_none rfl _ _ _) rfl ?_;exact⟨⟨_,rfl⟩, .inr ⟨_,⟨k+1,by have:=HP.out;have:=z1.out;omega,by rw[z9.out];exact(JO _ _ (by rw[D7,HP.out.1];rfl)).symm⟩,zr.out⟩⟩
   ·obtain rfl:j=T.length:=by omega
    obtain rfl:=zB h1;obtain rfl:lb=0:=by omega
    have q7:0<la:=by omega
    have zO:(0:Int)<(la:Int):=by omega
    have zZ:(1:Int)<=(la:Int):=by omega
    have q5:1<=c1:=by omega
    have q3:(la:Int)<=(c1:Int):=by omega
    have qc:decide ((0:Int)<(la:Int))=true:=decide_eq_true zO;have q9:((la:Int)==0)=false:=by rw[beq_eq_false_iff_ne];omega
    obtain⟨Aa,q1,zH⟩:=Up ab (ao+i*3) la c1 (by omega);have zM:=Lib.hid (show 2<=la->Aa=some ⟨ab,ao+i*3+3,none⟩ from fun h=>zH (by omega));clear zH;have z1:=Lib.hid (show i<D.length/\True from⟨h1,trivial⟩);have zi:=Lib.hid (show prX D T i T.length=true/\prX T D T.length i=false by unfold prX;simp[h1]);clear zC zA h1 h2 zB zz hi hj;gi_wp2;refine wpIn_wide.2 ?_;go_quiet (fail)
    have zb:=Lib.hid (show QS ba bb wr (wr.drewN nq) from QS.of_below (Qs (D6 _ _) nq));have z7:=Lib.hid (show(wr.drewN nq).heap=wr.heap from rfl);replace ca:(wr.drewN nq).cell? ⟨ba,0,none⟩=some (.slice (some ⟨ab,ao+i*3,none⟩) la c1):=ca;replace cb:(wr.drewN nq).cell? ⟨bb,0,none⟩=some (.slice A2 0 c2):=cb;replace fa:(wr.drewN nq).frozen? ⟨ba,0,none⟩=false:=fa;replace fb:(wr.drewN nq).frozen? ⟨bb,0,none⟩=false:=fb;generalize wr.drewN nq=w1 at*;gi_wp2;refine wpIn_wide.2 ?_;go_quiet (fail)
    have zc:=Lib.hid (show QS ba bb w1 (w1.drewN nq) from QS.of_below (Qs (D6 _ _) nq));have z5:=Lib.hid (show(w1.drewN nq).heap=w1.heap from rfl);replace ca:(w1.drewN nq).cell? ⟨ba,0,none⟩=some (.slice (some ⟨ab,ao+i*3,none⟩) la c1):=ca;replace cb:(w1.drewN nq).cell? ⟨bb,0,none⟩=some (.slice A2 0 c2):=cb;replace fa:(w1.drewN nq).frozen? ⟨ba,0,none⟩=false:=fa;replace fb:(w1.drewN nq).frozen? ⟨bb,0,none⟩=false:=fb;generalize w1.drewN nq=w3 at*;have zp:=Lib.hid (QS.of_grown1 (b1:=ba) (b2:=bb) (Qo w3 ba 0 (.slice Aa (la-1) (c1-1))));have za:=Lib.hid ((zb.out.trans zc).trans zp);have z2:w3.heap[ba]?=wr.heap[ba]?:=by rw[z5.out,z7.out]
    have z0:w3.heap[bb]?=wr.heap[bb]?:=by rw[z5.out,z7.out]
    have zl:=Lib.hid (show VT (w3.setCell ⟨ba,0,none⟩ (.slice Aa (la-1) (c1-1))) ba D ab ao (i+1) from by
     refine⟨by have:=z1.out;omega,Aa,(c1-1),?_,?_,?_⟩
     ·skip
      rw[heap_setCell_same w3 ba 0 _ _ _ (z2.trans z3.out.1)];have:D.length-(i+1)=(la-1):=by have:=ze.out;have:=z1.out;omega
      rw[this];simp
     ·intro h;have:=ze.out;rw[zM.out (by omega),show ao+(i+1)*3=ao+i*3+3 by omega]
     ·have:=ze.out;omega)
    have zj:=Lib.hid (show VT (w3.setCell ⟨ba,0,none⟩ (.slice Aa (la-1) (c1-1))) bb T tb to_ T.length from by
     refine zf.out.same ?_;rw[heap_setCell_other _ _ _ _ (by intro e;first|exact zk.out e|exact zk.out e.symm)];exact z0)
    have z9:=Lib.hid (show zy=(z8++[((some i,none):Option Nat×Option Nat)])++Q8 D T (D.length+T.length-(k+1)) (i+1) T.length by
     rw[HP.out.2.2.2.2.2,Yd D T k i T.length (by have:=HP.out;have:=z1.out;omega) (by have:=z1.out;omega),zi.out.1,zi.out.2];simp)
    obtain⟨fn,zs,zd,zu,hy,hR⟩:=HY.out z8 ((some i,none):Option Nat×Option Nat) (w3.setCell ⟨ba,0,none⟩ (.slice Aa (la-1) (c1-1))) (HJ.out _ _ _ ⟨za.out,za.out.others (fun o ho=>by rw[z3.out.1] at ho;cases ho;rfl) (fun o ho=>by rw[z3.out.2] at ho;cases ho;rfl)⟩ zD) ⟨_,zn.out.symm.trans z9⟩;dsimp only[Vx] at hy;have zw:=Lib.hid (show Below n₀ W (w3.setCell ⟨ba,0,none⟩ (.slice Aa (la-1) (c1-1))) from XA HP.out.2.2.2.2.1 za HB.out.1 HB.out.2.1 HB.out.2.2)
    clear z2 z0;gi_wp2;refine hR.mono ?_;rintro e W3 (⟨rfl,zh,zm⟩|⟨rfl,z6⟩)
    ·have zv:=DY zh;have z4:=DY zm;clear zh zm hR hy;gi_wp2;go_roundw
     case rel=>exact⟨k+1,(i+1),T.length,z8++[((some i,none):Option Nat×Option Nat)],DY ⟨by rw[D7,HP.out.1];rfl,by have:=HP.out;omega,by have:=z1.out;omega,by have:=z1.out;omega,zv.out,zl.out.same z4.out.2.1,zj.out.same z4.out.2.2,zw.out.trans z4.out.1,z9.out⟩⟩
     case measure=>
      rw[(zl.out.same z4.out.2.1).len,(zj.out.same z4.out.2.2).len,zg.out.len,zf.out.len];have:=z1.out;omega
    ·have zr:=DY z6;clear z6 hR hy;gi_wp2;refine bodyPost_ret (results_none rfl _ _ _) rfl ?_;exact⟨⟨_,rfl⟩, .inr ⟨_,⟨k+1,by have:=HP.out;have:=z1.out;omega,by rw[z9.out];exact(JO _ _ (by rw[D7,HP.out.1];rfl)).symm⟩,zr.out⟩⟩
  ·obtain rfl:i=D.length:=by omega
   obtain rfl:la=0:=by omega
   by_cases h2:j<T.length
   ·obtain rfl:=zz h2;have q4:0<lb:=by omega
    have zP:(0:Int)<(lb:Int):=by omega
    have qd:(1:Int)<=(lb:Int):=by omega
    have q2:1<=c2:=by omega
    have qb:(lb:Int)<=(c2:Int):=by omega
    have qa:decide ((0:Int)<(lb:Int))=true:=decide_eq_true zP;have q8:((lb:Int)==0)=false:=by rw[beq_eq_false_iff_ne];omega
    obtain⟨Ba,zY,zK⟩:=Up tb (to_+j*3) lb c2 (by omega);have zN:=Lib.hid (show 2<=lb->Ba=some ⟨tb,to_+j*3+3,none⟩ from fun h=>zK (by omega));clear zK;have z1:=Lib.hid (show True/\j<T.length from⟨trivial,h2⟩);have zi:=Lib.hid (show prX D T D.length j=false/\prX T D j D.length=true by unfold prX;simp[h2]);clear zC zA h1 h2 zB zz hi hj;gi_wp2;refine wpIn_wide.2 ?_;go_quiet (fail)
    have zb:=Lib.hid (show QS ba bb wr (wr.drewN nq) from QS.of_below (Qs (D6 _ _) nq));have z7:=Lib.hid (show(wr.drewN nq).heap=wr.heap from rfl);replace ca:(wr.drewN nq).cell? ⟨ba,0,none⟩=some (.slice A1 0 c1):=ca;replace cb:(wr.drewN nq).cell? ⟨bb,0,none⟩=some (.slice (some ⟨tb,to_+j*3,none⟩) lb c2):=cb;replace fa:(wr.drewN nq).frozen? ⟨ba,0,none⟩=false:=fa;replace fb:(wr.drewN nq).frozen? ⟨bb,0,none⟩=false:=fb;generalize wr.drewN nq=w1 at*;gi_wp2;refine wpIn_wide.2 ?_;go_quiet (fail)
    have zc:=Lib.hid (show QS ba bb w1 (w1.drewN nq) from QS.of_below (Qs (D6 _ _) nq));have z5:=Lib.hid (show(w1.drewN nq).heap=w1.heap from rfl);replace ca:(w1.drewN nq).cell? ⟨ba,0,none⟩=some (.slice A1 0 c1):=ca;replace cb:(w1.drewN nq).cell? ⟨bb,0,none⟩=some (.slice (some ⟨tb,to_+j*3,none⟩) lb c2):=cb;replace fa:(w1.drewN nq).frozen? ⟨ba,0,none⟩=false:=fa;replace fb:(w1.drewN nq).frozen? ⟨bb,0,none⟩=false:=fb;generalize w1.drewN nq=w3 at*;have zo:=Lib.hid (QS.of_grown2 (b1:=ba) (b2:=bb) (Qo w3 bb 0 (.slice Ba (lb-1) (c2-1))));have za:=Lib.hid ((zb.out.trans zc).trans zo);have z2:w3.heap[ba]?=wr.heap[ba]?:=by rw[z5.out,z7.out]
    have z0:w3.heap[bb]?=wr.heap[bb]?:=by rw[z5.out,z7.out]
    have zl:=Lib.hid (show VT (w3.setCell ⟨bb,0,none⟩ (.slice Ba (lb-1) (c2-1))) ba D ab ao D.length from by
     refine zg.out.same ?_;rw[heap_setCell_other _ _ _ _ (by intro e;first|exact zk.out e|exact zk.out e.symm)];exact z2)
    have zj:=Lib.hid (show VT (w3.setCell ⟨bb,0,none⟩ (.slice Ba (lb-1) (c2-1))) bb T tb to_ (j+1) from by
     refine⟨by have:=z1.out;omega,Ba,(c2-1),?_,?_,?_⟩
     ·rw[heap_setCell_same _ bb 0 _ _ _ ((z0.trans z3.out.2))];have:T.length-(j+1)=(lb-1):=by have:=ze.out;have:=z1.out;omega
      rw[this];simp
     ·intro h;have:=ze.out;rw[zN.out (by omega),show to_+(j+1)*3=to_+j*3+3 by omega]
     ·have:=ze.out;omega)
    have z9:=Lib.hid (show zy=(z8++[((none,some j):Option Nat×Option Nat)])++Q8 D T (D.length+T.length-(k+1)) D.length (j+1) by
     rw[HP.out.2.2.2.2.2,Yd D T k D.length j (by have:=HP.out;have:=z1.out;omega) (by have:=z1.out;omega),zi.out.1,zi.out.2];simp)
    obtain⟨fn,zs,zd,zu,hy,hR⟩:=HY.out z8 ((none,some j):Option Nat×Option Nat) (w3.setCell ⟨bb,0,none⟩ (.slice Ba (lb-1) (c2-1))) (HJ.out _ _ _ ⟨za.out,za.out.others (fun o ho=>by rw[z3.out.1] at ho;cases ho;rfl) (fun o ho=>by rw[z3.out.2] at ho;cases ho;rfl)⟩ zD) ⟨_,zn.out.symm.trans z9⟩;dsimp only[Vx] at hy;have zw:=Lib.hid (show Below n₀ W (w3.setCell ⟨bb,0,none⟩ (.slice Ba (lb-1) (c2-1))) from XA HP.out.2.2.2.2.1 za HB.out.1 HB.out.2.1 HB.out.2.2)
    clear z2 z0;gi_wp2;refine hR.mono ?_;rintro e W3 (⟨rfl,zh,zm⟩|⟨rfl,z6⟩)
    ·have zv:=DY zh;have z4:=DY zm;clear zh zm hR hy;gi_wp2;go_roundw
     case rel=>exact⟨k+1,D.length,(j+1),z8++[((none,some j):Option Nat×Option Nat)],DY ⟨by rw[D7,HP.out.1];rfl,by have:=HP.out;omega,by have:=z1.out;omega,by have:=z1.out;omega,zv.out,zl.out.same z4.out.2.1,zj.out.same z4.out.2.2,zw.out.trans z4.out.1,z9.out⟩⟩
     case measure=>
      rw[(zl.out.same z4.out.2.1).len,(zj.out.same z4.out.2.2).len,zg.out.len,zf.out.len];have:=z1.out;omega
    ·have zr:=DY z6;clear z6 hR hy;gi_wp2;refine bodyPost_ret (results_none rfl _ _ _) rfl ?_;exact⟨⟨_,rfl⟩, .inr ⟨_,⟨k+1,by have:=HP.out;have:=z1.out;omega,by rw[z9.out];exact(JO _ _ (by rw[D7,HP.out.1];rfl)).symm⟩,zr.out⟩⟩
   ·obtain rfl:j=T.length:=by omega
    obtain rfl:lb=0:=by omega
    have HE:=Lib.hid (show zy=z8 by rw[HP.out.2.2.2.2.2,pairsGo_end D T _ _ _ (by omega) (by omega),List.append_nil]);clear zC zA h1 h2 zB zz hi hj;gi_wp2;go_end0
    exact⟨⟨_,rfl⟩, .inl ⟨_,rfl,by rw[HE.out];exact zD.out⟩⟩
end
section
open Go.RowKit Go.Shelf
theorem pairs_in(n:Nat)(A1 A2:Option Addr)(n1 n2 c1 c2:Nat)(w:World):
  CallsIn Fence.wide n prog 120 #[.slice A1 n1 c1, .slice A2 n2 c2] w fun e w'=>e= .returned (.func (.func 188) #[] #[.pointer (some ⟨w.heap.size,0,none⟩), .pointer (some ⟨w.heap.size+1,0,none⟩)])/\w'=(w.alloc (.cells #[.slice A1 n1 c1] 137)).alloc (.cells #[.slice A2 n2 c2] 137):=by
 refine callsIn_of_wp func120 rfl trivial ?_ rfl;simp only[ntmps120,List.size_toArray,No,NV,N9,La,NJ,NK,NR,NM,Np,NH];gi_wp2;go_ret;exact⟨rfl,rfl⟩
theorem Kr(n:Nat)(hn:1<=n)(ba bb n₀ ab ao tb to_:Nat)(D T:List Qv)(hD:D.length<=18000000)(hT:T.length<=18000000)(hne:ba≠bb)(w:World)(h1:ba<w.heap.size)(h2:bb<w.heap.size)
  (ha:VT w ba D ab ao 0) (hb:VT w bb T tb to_ 0) (hba:n₀<=ba) (hbb:n₀<=bb) (hkD:Oi w n₀ ab ao D) (hkT:Oi w n₀ tb to_ T):
  UG n prog 188 #[.pointer (some ⟨ba,0,none⟩), .pointer (some ⟨bb,0,none⟩)] (fun x:Option Nat×Option Nat=>#[Vx ab ao x.1,Vx tb to_ x.2]) (KpC n₀ ba bb) (fun A B=>QS ba bb A B/\KeepsOthers A B) (fun ys=>ys=Q8 D T (D.length+T.length) 0 0)
   (fun pre=>∃k,k<=D.length+T.length/\pre=(Q8 D T (D.length+T.length) 0 0).take k) (fun pre x=>∃r,Q8 D T (D.length+T.length) 0 0=(pre++[x])++r) w:=fun lp J Jx W hW hJ hY h0=>by
 have z0:n₀<=w.heap.size:=by omega
 have hk:∀{b o:Nat} {l:List Qv},Oi w n₀ b o l->Oi W n₀ b o l:=fun{b o l} h=>⟨h.1,fun j x hj=>(hW.cell (p:=⟨b,o+j*3,none⟩) (show b<w.heap.size by have:=h.1;omega)).trans (h.2 j x hj)⟩
 exact pairs1_in n hn lp ba bb n₀ ab ao tb to_ D T hD hT hne J Jx hY hJ W (ha.same (hW.block ba h1)) (hb.same (hW.block bb h2)) hba hbb (D3 z0 hW.size) (hk hkD) (hk hkT) h0
theorem Jk(D T:List Qv):∀(f k:Nat),Qp D=Qp T->D.length-k<=f->Q8 D T f k k=((List.range (D.length-k)).map fun i=>(some (k+i),some (k+i)))
 |0,k,_,hf=>by
  have:D.length-k=0:=by omega
  rw[this]
  rfl
 |f+1,k,hkk,hf=>by
  have hl:D.length=T.length:=by simpa[Qp] using congrArg List.length hkk
  by_cases h:k<D.length
  ·have z0:Zr D k=Zr T k:=by
    have h1:(Qp D)[k]?=(Qp T)[k]?:=by rw[hkk]
    unfold Qp at h1;rw[Lx,Lx,D1 h,D1 (by omega)] at h1;unfold Zr;rw[D9,D9,D1 h,D1 (by omega)];simpa using h1
   have h1:prX D T k k=true:=by unfold prX;rw[z0,decide_eq_true h];simp
   have h2:prX T D k k=true:=by unfold prX;rw[z0,decide_eq_true (show k<T.length by omega)];simp
   unfold Q8;rw[if_pos (.inl h),h1,h2];simp only[if_true];rw[Jk D T f (k+1) hkk (by omega),show D.length-k=(D.length-(k+1))+1 by omega,List.range_succ_eq_map]
   simp only[List.map_cons,List.map_map,Nat.add_zero]
   congr 1
   refine List.map_congr_left fun i _=>?_
   simp only[Function.comp];rw[show k+1+i=k+(i+1) by omega]
  ·unfold Q8;rw[if_neg (by omega),show D.length-k=0 by omega]
   rfl
theorem OD(D T:List Qv):∀(f k:Nat),D.length+T.length<=f+2*k->(∀i,i<k->Zr D i=Zr T i)->k<=D.length->k<=T.length->¬Qp D=Qp T->∃p∈Q8 D T f k k,p.1=none∨p.2=none
 |0,k,hf,hi,h1,h2,hne=>by
  exfalso
  have h3:D.length=k:=by omega
  have h4:T.length=k:=by omega
  refine hne (Lo (by simp[Qp];omega) fun i hi1 hi2=>?_);have:=hi i (by simp[Qp] at hi1;omega);unfold Zr at this;simp[Qp] at hi1 hi2 ⊢;rw[D9,D9,D1 hi1,D1 hi2] at this;simpa using this
 |f+1,k,hf,hi,h1,h2,hne=>by
  by_cases hd:k<D.length
  ·by_cases ht:k<T.length
   ·by_cases hkey:Zr D k=Zr T k
    ·have e1:prX D T k k=true:=by unfold prX;rw[hkey,decide_eq_true hd];simp
     have e2:prX T D k k=true:=by unfold prX;rw[hkey,decide_eq_true ht];simp
     unfold Q8;rw[if_pos (.inl hd),e1,e2];simp only[if_true];obtain⟨p,hp,hn⟩:=OD D T f (k+1) (by omega) (fun i hik=>by
      rcases Nat.lt_or_ge i k with h|h
      ·exact hi i h
      ·obtain rfl:i=k:=by omega
       exact hkey) hd ht hne
     exact⟨p,List.mem_cons_of_mem _ hp,hn⟩
    ·unfold Q8;rw[if_pos (.inl hd)];refine⟨_,Ll ..,?_⟩;by_cases hle:Zr D k<=Zr T k
     ·right
      have:prX T D k k=false:=by unfold prX;rw[decide_eq_true ht,decide_eq_false (show¬D.length<=k by omega),decide_eq_false (show¬Zr T k<=Zr D k by omega)];rfl
      rw[this];rfl
     ·left
      have:prX D T k k=false:=by unfold prX;rw[decide_eq_true hd,decide_eq_false (show¬T.length<=k by omega),decide_eq_false hle];rfl
      rw[this];rfl
   ·unfold Q8;rw[if_pos (.inl hd)];refine⟨_,List.mem_cons_self .., .inr ?_⟩;have:prX T D k k=false:=by unfold prX;rw[decide_eq_false ht];rfl
    rw[this];rfl
  ·by_cases ht:k<T.length
   ·unfold Q8;rw[if_pos (.inr ht)];refine⟨_,List.mem_cons_self .., .inl ?_⟩;have:prX D T k k=false:=by unfold prX;rw[decide_eq_false hd];rfl
    rw[this];rfl
   ·exfalso
    have h3:D.length=k:=by omega
    have h4:T.length=k:=by omega
    refine hne (Lo (by simp[Qp];omega) fun i hi1 hi2=>?_);have:=hi i (by simp[Qp] at hi1;omega);unfold Zr at this;simp[Qp] at hi1 hi2 ⊢;rw[D9,D9,D1 hi1,D1 hi2] at this;simpa using this
end
end Go.Proofs.YtijcgllddnpmhaaGreatDoor
