/- TopSound: lemmas, part 24. -/
import Derived.Test.YtijcgllddnpmhaaGreatDoorTopSoundT23
set_option maxRecDepth 100000
set_option maxHeartbeats 16000000
set_option linter.all false
namespace Go.Proofs.YtijcgllddnpmhaaGreatDoor
open Go.RowKit Go.Proofs.Tryz
theorem WkB.see{q:WkS}{s:Int}(h:WkB q s)(hl:q.st.looked<1000000):WkB {q with st:=q.st.see} (s-19)/\(q.st.ents.length:Int)+18<=18*q.st.see.looked/\(q.nb.length:Int)+1<=q.st.see.looked:=by
 obtain⟨e1,e2,e3,e4,e5,e6,e7,e8⟩:=h;have hs:q.st.see.looked=q.st.looked+1:=rfl;refine⟨⟨?_,?_,?_,?_,?_,e6,e7,by omega⟩,by rw[hs];omega,by rw[hs];omega⟩
 ·show(q.st.ents.length:Int)<=18*(q.st.looked+1);omega
 ·show(q.nb.length:Int)<=q.st.looked+1;omega
 ·show(q.fl.length:Int)<=19*(q.st.looked+1)+(s-19);omega
 ·show 0<=q.st.looked+1;omega
 ·show q.st.looked+1<=1000000;omega
theorem WkB.more{q:WkS}{s s':Int}(h:WkB q s)(hs:s<=s')(h1:s'<=100):WkB q s':=⟨h.eb,h.bb,by have:=h.fb;omega,h.l0,h.l1,h.d0,h.d1,h1⟩
theorem own_pair{w:World}{base n c:Nat}{e:TypeId}{A:Option Addr}{l:List (Int×Int)}{k:Nat}{p:Int×Int}(h:w.ownsRow base e 2 (.slice A n c) n (pcs l))(hk:l[k]?=some p):
  ∃r,A=some ⟨r,0,none⟩/\w.cell? ⟨r,k*2,none⟩=some (.int .i64 p.1)/\w.cell? ⟨r,k*2+1,none⟩=some (.int .i64 p.2):=by
 obtain⟨h0,h1⟩:=Rg l k p hk;have hl:=h.1;have hp:0<(pcs l).length:=LG (Lb _) (NG.1 h0).1;rcases h.2 with⟨_,hz⟩|⟨g,cap,cur,hv,_⟩
 ·subst hz;omega
 ·injection hv with hA
  subst hA;have c0:=h.cells (g:=g) rfl _ _ h0;have c1:=h.cells (g:=g) rfl _ _ h1;have ea:∀j,(⟨g,0,none⟩:Addr).add j=⟨g,j,none⟩:=fun j=>by unfold Addr.add;split<;>simp_all
  rw[ea] at c0 c1;exact⟨g,rfl,c0,c1⟩
theorem cap_le{w:World}{base c:Nat}{e:TypeId}{A:Option Addr}{v:Value}{l l':List Int}{x:Int}(h:w.ownsRow base e 1 v l.length (iv l))(hv:v= .slice A (l'.length+1) c)(hl:l=l'++[x]):l'.length<=c:=by
 subst hv;rcases h.2 with⟨hv,_⟩|⟨g,cap,cur,hv,_,_,hc,_⟩
 ·injection hv with _ hv
  omega
 ·injection hv with _ _ hv
  rw[hl,D7] at hc;simp at hc;omega
def Kids(bs:List UInt8)(tree fuel:Int)(base g m d:Nat)(nvs:List (List UInt8))(ss:List (Int×Int))(st':WS)(way:List Int)(s:Int)(w0:World)(k:Nat)(q:WkS)(w:World):Prop:=
 q.way=way/\Wk w base g m tree fuel q/\WkK base w0 w/\WkB q (s-19+k)/\Yl (Zx bs tree fuel d way) (nvs.drop k) (ss.drop k) q.st=st'
theorem Rw{bs:List UInt8}{tree fuel:Int}{base g m:Nat}(hfu:fuel<=1000000)(d:Nat)(hV:∀d',d=d'+1->Ro bs tree fuel base g m d'):Ro bs tree fuel base g m d:=by
 intro q w no lo hi s h qu hd hB hs;obtain⟨ji,qt,qJ,qh,qr⟩:=info_parts Tryz.infoI64;obtain⟨st',q1⟩:=DR (Zx bs tree fuel d q.way no lo hi q.st);rw[<-q1];have zh:=DY q1;obtain⟨w1,qF,zS,qd⟩:=DS w (.cells #[.int .i64 lo, .int .i64 hi] 329);have zP:=h.keep zS;have k3:w1.cell? ⟨g,3,none⟩=some (.int .i64 q.st.looked):=Qa zP.bx 3 rfl;have k7:w1.cell? ⟨g,7,none⟩=some (.int .i64 fuel):=Qa zP.bx 7 rfl;have zI:=DY zP;have zD:=DY (WkK.of_below zS h.bs);have qD:=DY (qu.below (zS.mono h.bs));have qE:=DY qd;have za:=DY hB;have qO:=DY h.bs;have qK:=DY h.lt;have qY:=DY (fun k (hk:q.Bk.ownBlock=some k)=>(h.b.lt k hk).2);have qQ:=DY (fun k (hk:q.Wy.ownBlock=some k)=>(h.y.lt k hk).2);have qX:=hB.l0;have qS:=hB.l1;clear q1 h qu zS qd zP hB;go_enter func190,ntmps190
 go_upto_region 1 with fail
 rw[<-qF];clear qF;obtain⟨bf,qi⟩:∃bf,decide (fuel<=q.st.looked)=bf:=⟨_,rfl⟩;go_quiet (fail)
 have zF:=DY qi;clear qi;obtain⟨w2,q2⟩:=DR (w1.drewN nq);have zC:Below w1.heap.size w1 w2:=by rw[q2];exact Zn (D6 _ _) nq
 have zK:=DY (zI.out.keep zC);have zN:=DY (zD.out.trans (WkK.of_below zC zI.out.bs));have zV:=DY (qD.out.below (zC.mono zI.out.bs));have zR:=DY (Qe qE zC);rw[<-q2];clear q2 zC k3 k7 zI zD qD qE;cases bf with
 |true=>
  have hf:fuel<=q.st.looked:=of_decide_eq_true zF.out;have zj:=DY (show st'={q.st with bad:=true,dry:=true} by rw[zh.out];exact visit_dry hf);clear zh hf hV;have KA:=Xk 0 no (.iface 37 (.int .i64 12)) w2 (Qy.num _ _ _ _);have zW:=DY (show q.fl.length<=100000000 by have:=za.out.fb;have:=za.out.l1;omega);have zk:=DY (show q.way.length<=16 by omega);go_wp2_with fail
  refine KA.mono ?_;rintro e w3 ⟨v,rfl,hv,q9⟩;have zf:=DY (zK.out.keep q9);have zy:=DY (zN.out.trans (WkK.of_below q9 zK.out.bs));have KN:=R5 zf.out v (hv.up (by decide)) zk.out zW.out;clear KA hv q9;go_wp2_with fail
  refine KN.mono ?_;rintro e w4 ⟨rfl,q',h1,h2,h3,h4,h5,h6,h7⟩;have k9:w4.cell? ⟨g,9,none⟩=some (.bool q'.st.dry):=Qa h6.bx 9 rfl;have f9:=Qf h6.bx 9;obtain⟨t1,t2⟩:=h6.field 9 (.bool true) {q' with st:={q'.st with dry:=true}} (by simp[WkS.cells]) rfl rfl rfl rfl rfl rfl rfl rfl rfl
  have z0:=DY (show∃q'',q''.st=st'/\q''.way=q.way/\Wk (w4.setCell ⟨g,9,none⟩ (.bool true)) base g m tree fuel q''/\WkK base w (w4.setCell ⟨g,9,none⟩ (.bool true))/\WkB q'' (s+1) from
   ⟨{q' with st:={q'.st with dry:=true}},by rw[zj.out,h1];rfl,h2,t1,zy.out.trans (h7.toK.trans t2),by
    have hb:=za.out.fail hs h1 h3 h4;exact⟨hb.eb,hb.bb,hb.fb,hb.l0,hb.l1,hb.d0,hb.d1,hb.s1⟩⟩)
  clear h1 h2 h3 h4 h5 h6 h7 t1 t2 KN;go_wp2
  (try simp only[Exit.inBlock,Exit.then])
  first|(refine Kk (by rfl) rfl ?_;exact⟨rfl,z0.out⟩)|(refine bodyPost_ret (results_none rfl _ _ _) rfl ?_;exact⟨rfl,z0.out⟩)
 |false=>
 have hf:¬fuel<=q.st.looked:=of_decide_eq_false zF.out;have e0:=Qa zR 0 rfl;have e1:=Qa zR 1 rfl;have zG:=DY (show w.heap.size<=w2.heap.size from zN.out.1.size);have KL:=look_any zK zV no lo hi (by omega) qX qS (fun n hn=>(Vd hn).2.1);have qC:q.st.looked<1000000:=by omega
 clear hf;go_wp2_with fail
 refine KL.mono ?_;rintro e w3 ⟨h1,h2,h3⟩;have zf:=DY h1;have zy:=DY (zN.out.trans h2);have qA:=DY (zV.out.below h2.1);have qe:=DY (h2.2 _ _ _ _ zR.out (by decide) (by decide) (by decide) (by decide));clear KL h1 h2 e0 e1 zK zN zV zR;rcases h3 with⟨n,A,c,A2,c2,zw,rfl,qm⟩|⟨zw,t,lf,A1,n1,c1,A2,n2,c2,v,rfl,hv⟩
 case inr=>
  have zj:=DY (show st'=q.st.see.fail by rw[zh.out];exact visit_none (of_decide_eq_false zF.out) hd zw);obtain⟨tv,xv,rfl⟩:=hv.form;have zW:=DY (show q.fl.length<=100000000 by have:=za.out.fb;have:=za.out.l1;omega);have zk:=DY (show q.way.length<=16 by omega);have q0:=DY (za.out.see qC).1;have zb:=Qd w3 (.cells #[.int .i64 t, .bool lf, .slice A1 n1 c1, .slice A2 n2 c2] 113);have KN:=R5 (zf.out.keep zb) (.iface tv xv) (hv.ext zb) zk zW;have zQ:=DY (zy.out.trans (WkK.of_below zb zf.out.bs));clear zh zw hv zb;go_wp2_with fail
  refine KN.mono ?_;rintro e w4 ⟨rfl,q',h1,h2,h3,h4,h5,h6,h7⟩;have z0:=DY (show∃q'',q''.st=st'/\q''.way=q.way/\Wk w4 base g m tree fuel q''/\WkK base w w4/\WkB q'' (s+1) from
   ⟨q',by rw[zj.out,h1],h2,h6,zQ.out.trans h7.toK,((q0.out.fail (by omega) h1 h3 h4).more (by omega) (by omega))⟩)
  clear h1 h2 h3 h4 h5 h6 h7 KN;go_wp2
  (try simp only[Exit.inBlock,Exit.then])
  first|(refine Kk (by rfl) rfl ?_;exact⟨rfl,z0.out⟩)|(refine bodyPost_ret (results_none rfl _ _ _) rfl ?_;exact⟨rfl,z0.out⟩)
 obtain⟨g1,g2,g3,g4,g5⟩:=Ka zw;obtain⟨v1,v2,v3⟩:=Vd g1;obtain⟨nt,zZ,z8,z6⟩:=n;dsimp only at*;obtain⟨d',rfl⟩:∃d',d=d'+1:=⟨d-1,by omega⟩
 have HV:=DY (hV d' rfl);have zT:=DY zw;have j0:=DY g2;have zB:=DY v1;have qP:=DY v3;have zl:=DY (show¬fuel<=q.st.looked from of_decide_eq_false zF.out);obtain⟨zi,qZ,qU⟩:Hid (WkB {q with st:=q.st.see} (s-19))/\Hid ((q.st.ents.length:Int)+18<=18*q.st.see.looked)/\Hid ((q.nb.length:Int)+1<=q.st.see.looked):=let⟨x,y,z⟩:=za.out.see qC;⟨DY x,DY y,DY z⟩;obtain⟨w4,qa,zb,-⟩:=DS w3 (.cells #[.int .i64 nt, .bool zZ, .slice A z8.length c, .slice A2 z6.length c2] 113);have qg:=DY (show w4.heap[w3.heap.size]?=some (.cells #[.int .i64 nt, .bool zZ, .slice A z8.length c, .slice A2 z6.length c2] 113) by rw[qa];exact heap_alloc_new _ _);have zq:=DY (zf.out.keep zb);have zQ:=DY (zy.out.trans (WkK.of_below zb zf.out.bs));have qG:=DY (qA.out.below (zb.mono zf.out.bs));have qo:=DY (Qe qe zb);have qp:=DY (qm.keep zb);have q4:=DY (show q.nb.length<=100000000 by have:=za.out.bb;have:=za.out.l1;omega);clear hV zw g1 g2 g3 g5 v1 v3 qm zb zf zy qA qe zF;obtain⟨Ab,cb,zu⟩:=QN zq.out.b;replace zu:q.Bk= .slice Ab q.nb.length cb:=zu;have k1:w4.cell? ⟨g,1,none⟩=some (.slice Ab q.nb.length cb):=by rw[<-zu];exact Qa zq.out.bx 1 rfl
 have zm:=DY (zq.out.keep (Qd w4 (.cells #[.int .i64 no] 3)));have qn:=DY (show(w4.alloc (.cells #[.int .i64 no] 3)).ownsRow base 3 1 (.slice Ab q.nb.length cb) q.nb.length (iv q.nb) from by have:=zm.out.b;rw[show({q with st:=q.st.see}:WkS).Bk=q.Bk from rfl,zu] at this;exact this);have zn:=DY zu;have qL:=q4.out;clear zu;go_upto_region 5 with fail
 rw[<-qa];clear qa;go_upto_region 7 with fail
 go_upto_region 8 with(refine QE _ rfl (.tmp 45) (.tmp 47) 68 rfl base 3 ji _ 8 underlying68 qt qJ qh qr rfl _ q.nb.length (iv q.nb) rfl qn.out _ _ 1 1 [.int .i64 no] rfl rfl (Qh.new w4 [.int .i64 no] 3 (0,0)) (by simp[Value.oneCell']) (by simp only[maxLen];omega) (by omega) (by have:=zq.out.bs;simp;omega) ?_;intro A5 c5 w5 z7 zp zU zz;obtain⟨t1,t2,t3⟩:=zm.out.pushBk no (.slice A5 (q.nb.length+1) c5) w5 z7 (by rw[show({q with st:=q.st.see}:WkS).Bk=q.Bk from rfl,zn.out];exact zp) (by rw[show({q with st:=q.st.see}:WkS).Bk=q.Bk from rfl,zn.out];exact zz) _ rfl;have k5:=Qa t1 1 rfl;have f5:=Qf t1 1;have zH:=DY t2;have z9:=DY t3;have q5:=DY (show(w4.alloc (.cells #[.int .i64 no] 3)).grownBy w5 (Value.slice Ab q.nb.length cb).ownBlock from zp);clear t1 t2 t3 z7 zp zU zz)
 have zs:=DY (((qp.out.keep (Qd w4 (.cells #[.int .i64 no] 3))).low q5 (fun k hk=>Nh (qY.out k (by rw[zn.out];exact hk)) zG)).low (Qo w5 g 1 (.slice A5 (q.nb.length+1) c5)) (fun k hk=>by cases hk;exact Nh qK zG));have zX:=DY (zQ.out.trans ((WkK.of_below (Qd w4 (.cells #[.int .i64 no] 3)) zq.out.bs).trans z9));have zv:=DY (z9.out.2 _ _ _ _ (Qj qg.out (.cells #[.int .i64 no] 3)) (by decide) (by decide) (by decide) (by decide));have qw:=DY (z9.out.2 _ _ _ _ (Qj qo.out (.cells #[.int .i64 no] 3)) (by decide) (by decide) (by decide) (by decide));have qH:=DY (qG.out.below (((Qd w4 (.cells #[.int .i64 no] 3)).mono zq.out.bs).trans z9.out.1));generalize hw6:w5.setCell ⟨g,1,none⟩ (.slice A5 (q.nb.length+1) c5)=w6 at*;clear hw6;obtain⟨q6,zL⟩:∃q6:WkS,q6={q with Bk:= .slice A5 (q.nb.length+1) c5,nb:=q.nb++[no],st:=q.st.see}:=⟨_,rfl⟩
 have zg:=DY (show Wk w6 base g m tree fuel q6 by rw[zL];exact zH.out);have zc:=DY (show WkB q6 (s-19) by
  rw[zL];exact⟨zi.out.eb,by show((q.nb++[no]).length:Int)<=q.st.see.looked;rw[D7];have:=qU.out;simp;omega,zi.out.fb,zi.out.l0,zi.out.l1,zi.out.d0,zi.out.d1,zi.out.s1⟩)
 have ze:=DY zL;have x1:=Qa zv 1 rfl;clear k1 k5 f5 qL zH z9 qn zm qg zq zQ qG qo qp zi zL;cases zZ with
 |true=>
  have zj:=DY (show st'={q.st.see with deep:=(q.way.length:Int)+1,ents:=q.st.ents++Zw no z8 z6} by rw[zh.out];exact visit_leaf zl zT rfl);have x0:=Qa zv 0 rfl;have x2:=Qa zv 2 rfl;have x3:=Qa zv 3 rfl;have KF:=leaf_any zg no ⟨nt,true,z8,z6⟩ A c A2 c2 (zs.out.mono (D3 qO zG)) v2 zB (by rw[ze.out];show q.way.length<=16;omega) (by rw[ze.out];show q.st.ents.length<=100000000;have:=za.out.eb;have:=za.out.l1;omega);clear zh;go_wp2_with fail
  refine KF.mono ?_;rintro e w7 ⟨rfl,E',h1,h2⟩;have z0:=DY (show∃q'',q''.st=st'/\q''.way=q.way/\Wk w7 base g m tree fuel q''/\WkK base w w7/\WkB q'' (s+1) from
   ⟨_,by rw[zj.out,ze.out];rfl,by rw[ze.out],h1,zX.out.trans h2,by
    have hb:=zc.out;have e1:=qZ.out;have e2:(Zw no z8 z6).length<=18:=by
     rw[Ua no z8 z6 zB,NN,LN];exact v2
    rw[ze.out] at hb ⊢;refine⟨?_,hb.bb,by have:=hb.fb;show(_:Int)<=_;dsimp only at this ⊢;omega,hb.l0,hb.l1,?_,?_,by omega⟩
    ·show((q.st.ents++Zw no z8 z6).length:Int)<=18*q.st.see.looked
     rw[D7];omega
    ·show(0:Int)<=(q.way.length:Int)+1;omega
    ·show(q.way.length:Int)+1<=17;omega⟩)
  clear h1 h2 KF;go_wp2
  (try simp only[Exit.inBlock,Exit.then])
  first|(refine Kk (by rfl) rfl ?_;exact⟨rfl,z0.out⟩)|(refine bodyPost_ret (results_none rfl _ _ _) rfl ?_;exact⟨rfl,z0.out⟩)
 |false=>
  have zj:=DY (show Yl (Zx bs tree fuel d' (q.way++[no])) z6 (Xh hi z8) q.st.see=st' by rw[zh.out];exact(visit_inner zl zT rfl).symm);clear zh zT zl;have EW:Hid (q6.way=q.way):=DY (by rw[ze.out]);have EY:Hid (q6.Wy=q.Wy):=DY (by rw[ze.out]);have hwl:q.way.length<=16:=by omega
  obtain⟨Aw,cw,zx⟩:=QN zg.out.y;replace zx:q6.Wy= .slice Aw q.way.length cw:=by rw[zx,EW.out]
  have k8:w6.cell? ⟨g,8,none⟩=some (.slice Aw q.way.length cw):=by rw[<-zx];exact Qa zg.out.bx 8 rfl
  have zm:=DY (zg.out.keep (Qd w6 (.cells #[.int .i64 no] 3)));have qz:=DY (show(w6.alloc (.cells #[.int .i64 no] 3)).ownsRow base 3 1 (.slice Aw q.way.length cw) q.way.length (iv q.way) from by have:=zm.out.y;rw[EW.out,zx] at this;exact this);have zd:=DY zx;clear zx;go_upto_region 10 with fail
  clear x1;go_upto_region 11 with(refine QE _ rfl (.tmp 62) (.tmp 64) 68 rfl base 3 ji _ 8 underlying68 qt qJ qh qr rfl _ q.way.length (iv q.way) rfl qz.out _ _ 1 1 [.int .i64 no] rfl rfl (Qh.new w6 [.int .i64 no] 3 (0,0)) (by simp[Value.oneCell']) (by simp only[maxLen];omega) (by omega) (by have:=zg.out.bs;simp;omega) ?_;intro A7 c7 w5 z7 zp zU zz;obtain⟨t1,t2,t3⟩:=zm.out.pushWy no (.slice A7 (q.way.length+1) c7) w5 (by rw[EW.out];exact z7) (by rw[zd.out];exact zp) (by rw[zd.out];exact zz) _ rfl;have k5:=Qa t1 8 rfl;have f5:=Qf t1 8;have zH:=DY t2;have z9:=DY t3;have q5:=DY (show(w6.alloc (.cells #[.int .i64 no] 3)).grownBy w5 (Value.slice Aw q.way.length cw).ownBlock from zp);clear t1 t2 t3 z7 zp zU zz)
  have zo:=DY (((zs.out.keep (Qd w6 (.cells #[.int .i64 no] 3))).low q5 (fun k hk=>Nh (qQ.out k (by rw[<-EY.out,zd.out];exact hk)) zG)).low (Qo w5 g 8 (.slice A7 (q.way.length+1) c7)) (fun k hk=>by cases hk;exact Nat.lt_of_lt_of_le qK zG));have qv:=DY (zX.out.trans ((WkK.of_below (Qd w6 (.cells #[.int .i64 no] 3)) zg.out.bs).trans z9));have q3:=DY (z9.out.2 _ _ _ _ (Qj zv.out (.cells #[.int .i64 no] 3)) (by decide) (by decide) (by decide) (by decide));have qb:=DY (z9.out.2 _ _ _ _ (Qj qw.out (.cells #[.int .i64 no] 3)) (by decide) (by decide) (by decide) (by decide));have qI:=DY (qH.out.below (((Qd w6 (.cells #[.int .i64 no] 3)).mono zg.out.bs).trans z9.out.1));generalize hw7:w5.setCell ⟨g,8,none⟩ (.slice A7 (q.way.length+1) c7)=w7 at*;clear hw7;obtain⟨q7,zM⟩:∃q7:WkS,q7={q6 with Wy:= .slice A7 (q.way.length+1) c7,way:=q6.way++[no]}:=⟨_,rfl⟩
  have zO:=DY (show Wk w7 base g m tree fuel q7 by rw[zM];exact zH.out);have j1:=DY (show WkB q7 (s-19) by rw[zM];exact⟨zc.out.eb,zc.out.bb,zc.out.fb,zc.out.l0,zc.out.l1,zc.out.d0,zc.out.d1,zc.out.s1⟩);have qB:=DY (show q7.way=q.way++[no]/\q7.st=q.st.see from by rw[zM,ze.out];exact⟨rfl,rfl⟩);have e0:=Qa qb 0 rfl;have e1:=Qa qb 1 rfl;have x2:=Qa q3 2 rfl;have KS:=split13_any A c z8 lo hi (by omega) j0 w7 (Qh.of_own zo.out.k);clear k5 f5 k8 zH z9 qz zm zd zv zg zX qH qw zs zc ze zM EW EY;go_wp2_with fail
  refine KS.mono ?_;rintro e w8 ⟨A8,c8,rfl,zr,zt⟩;have j2:=DY (zO.out.keep zt);have qx:=DY (qv.out.trans (WkK.of_below zt zO.out.bs));have qT:=DY (qI.out.below (zt.mono zO.out.bs));have qW:=DY (Qe q3 zt);have qR:=DY (zo.out.keep zt).v;have zE:=DY zr;have qc:=DY (show(Xh hi z8).length=z8.length from by have:=zr.1;rw[pcs_len] at this;omega);obtain⟨ss,ql⟩:=DR (Xh hi z8);rw[<-ql] at zE qc zj;clear ql zr zt KS e0 e1 x2 zO qv qI q3 qb zo;go_wp2;go_loopg [73] z8.length (fun gk s73 wr=>∃(k:Nat) (qk:WkS),k+gk=z8.length/\s73= .int .i64 k/\Kids bs tree fuel base g m d' z6 ss st' (q.way++[no]) s w8 k qk wr)
  case atStart=>exact⟨0,q7,by omega,rfl,qB.out.1,j2.out,WkK.refl _ _,j1.out.more (by omega) (by omega),by rw[qB.out.2];exact zj.out⟩
  case round=>
   obtain⟨k,qk,hk,rfl,hR⟩:=hrel;have HR:=DY hR;by_cases hlt:k<z8.length
   ·obtain⟨y1,y2,y3,y4,y5⟩:=HR.out;obtain⟨⟨p0,p1⟩,hp⟩:∃p,ss[k]?=some p:=⟨ss[k]'(by rw[qc.out];exact hlt),D1 _⟩;obtain⟨rg,rfl,c0,c1⟩:=own_pair (y3.row zE.out (by decide) (by decide) (by decide) (by decide)) hp;obtain⟨vg,rfl,vc⟩:=Z9 (y3.row qR.out (by decide) (by decide) (by decide) (by decide)) (by rw[zB.out];omega);have zA:k<z6.length:=by rw[zB.out];exact hlt
    replace vc:=vc k (.string ⟨(z6.getD k []).toArray⟩) (by rw[sv_get z6 k zA];simp[D9,D1 zA]);have hx:=y3.2 _ _ _ _ qW.out (by decide) (by decide) (by decide) (by decide);have x3:wr.cell? ⟨w3.heap.size,3,none⟩=some (.slice (some ⟨vg,0,none⟩) z6.length c2):=Qa hx 3 rfl;have qy:=Lib.hid (kids_drop (f:=Zx bs tree fuel d' (q.way++[no])) zA (show k<ss.length by rw[qc.out];exact hlt) qk.st);have qM:=Lib.hid (show ss.getD k (0,0)=(p0,p1) by rw[D9,hp];rfl);have qV:=Lib.hid (show(z6.getD k []).length<=1000 from by
     rw[D9,D1 zA];exact D3 (qP.out _ (Nm zA)) (by decide))
    obtain⟨w9,qq,zJ,qj⟩:=DS wr (.cells #[.int .i64 p0, .int .i64 p1] 329);have hb9':Below wr.heap.size wr w9.drew:=zJ.drew;have KC:=child_any HV qk w9.drew no p0 p1 (s-19+k) (z6.getD k []) (y2.keep hb9') (qT.out.below (y3.1.trans (hb9'.mono y2.bs))) (by rw[y1,D7];simp;omega) (by rw[y1,D7];simp) y4 (by omega) qV;have qN:=Lib.hid (y3.trans (WkK.of_below hb9' y2.bs));have HY:=Lib.hid (DZ y1 y5);have n0:(0:Int)<=(k:Int):=by omega
    have n1:(k:Int)<(z8.length:Int):=by omega
    have n2:(k:Int)<(z6.length:Int):=by omega
    clear y1 y2 y3 y4 y5 hp hx hR HR;go_upto_region 14 with fail
    rw[<-qq];obtain⟨e0,e1⟩:=DU qj;have x3':=Qg zJ x3;have vc':=Qg zJ vc;clear qq zJ hb9' c0 c1 x3 vc qj;generalize hval:z6.getD k []=val at*;go_still_tail 8,(by kernel_rfl)
    change wpList _ _ _ _ _ w9.drew;generalize hw10:w9.drew=w10 at*;clear hw10;go_wp2_with fail
    refine KC.mono ?_;rintro e wf ⟨rfl,q',z1,z2,z3,z4,z5⟩;have k9:=Qa z3.bx 9 rfl;have HF:=Lib.hid (DZ z1 (DZ z2 (DZ z3 (DZ (qN.out.trans z4) z5))));clear KC z1 z2 z3 z4 z5 e0 e1 x3' vc';obtain⟨dr,zY⟩:=DR (q'.st.dry);have qs:=Lib.hid zY;replace k9:wf.cell? ⟨g,9,none⟩=some (.bool dr):=by rw[zY];exact k9
    clear zY;have zD:=Lib.hid (show kid1 (Zx bs tree fuel d' (q.way++[no])) val (ss.getD k (0,0)) qk.st=q'.st by
     rw[HF.out.1,qM.out,<-HY.out.1];rfl)
    cases dr with
    |true=>
     replace HF:=DY (show∃qf:WkS,qf.st=st'/\qf.way=q.way++[no]/\Wk wf base g m tree fuel qf/\WkK base w wf/\WkB qf (s+1) from
      ⟨q',by have:=HY.out.2;rw[qy.out,zD.out,<-qs.out,if_pos rfl] at this;exact this,by rw[HF.out.2.1];exact HY.out.1,HF.out.2.2.1,qx.out.trans HF.out.2.2.2.1,HF.out.2.2.2.2.more (by omega) (by omega)⟩)
     obtain⟨qf,z1,z2,z3,z4,z5⟩:=HF.out;obtain⟨Ay,cy,hy⟩:=QN z3.y;replace hy:qf.Wy= .slice Ay (q.way.length+1) cy:=by rw[hy,z2,D7];rfl
     have k8:wf.cell? ⟨g,8,none⟩=some (.slice Ay (q.way.length+1) cy):=by rw[<-hy];exact Qa z3.bx 8 rfl
     have f8:=Qf z3.bx 8;have q8:=cap_le z3.y hy z2;obtain⟨u1,u2⟩:=(z3.keep ((D6 _ _).drew)).pop Ay cy no q.way z2 hy _ rfl;have z0:=DY (show∃q'',q''.st=st'/\q''.way=q.way/\Wk (wf.drew.setCell ⟨g,8,none⟩ (.slice Ay q.way.length cy)) base g m tree fuel q''/\WkK base w (wf.drew.setCell ⟨g,8,none⟩ (.slice Ay q.way.length cy))/\WkB q'' (s+1) from
      ⟨{qf with Wy:= .slice Ay q.way.length cy,way:=q.way},z1,rfl,u1,z4.trans ((WkK.of_below ((D6 _ _).drew) z3.bs).trans u2),⟨z5.eb,z5.bb,z5.fb,z5.l0,z5.l1,z5.d0,z5.d1,z5.s1⟩⟩)
     clear z1 z2 z3 z4 z5 u1 u2 hy HF;go_wp2;go_region
     go_wp2
     (try simp only[Exit.inBlock,Exit.then])
     first|(refine Kk (by rfl) rfl ?_;exact⟨rfl,z0.out⟩)|(refine bodyPost_ret (results_none rfl _ _ _) rfl ?_;exact⟨rfl,z0.out⟩)
    |false=>
     go_wp2;go_roundg (gk-1)
     case measure=>omega
     case rel=>exact⟨k+1,q',by omega,by first|rfl|go_num,by rw[HF.out.2.1];exact HY.out.1,HF.out.2.2.1,HF.out.2.2.2.1,HF.out.2.2.2.2.more (by omega) (by omega),by have:=HY.out.2;rw[qy.out,zD.out,<-qs.out,if_neg (by decide)] at this;exact this⟩
   ·obtain rfl:k=z8.length:=by omega
    obtain⟨y1,y2,y3,y4,y5⟩:=HR.out;have HF:=Lib.hid (show∃qf:WkS,qf.st=st'/\qf.way=q.way++[no]/\Wk wr base g m tree fuel qf/\WkK base w wr/\WkB qf (s+1) from
     ⟨qk,by rw[kids_end (by rw[zB.out];exact Na _)] at y5;exact y5,y1,y2,qx.out.trans y3,y4.more (by omega) (by omega)⟩)
    clear y1 y2 y3 y4 y5 hR HR;obtain⟨qf,z1,z2,z3,z4,z5⟩:=HF.out;obtain⟨Ay,cy,hy⟩:=QN z3.y;replace hy:qf.Wy= .slice Ay (q.way.length+1) cy:=by rw[hy,z2,D7];rfl
    have k8:wr.cell? ⟨g,8,none⟩=some (.slice Ay (q.way.length+1) cy):=by rw[<-hy];exact Qa z3.bx 8 rfl
    have f8:=Qf z3.bx 8;have q8:=cap_le z3.y hy z2;obtain⟨u1,u2⟩:=(z3.keep ((D6 _ _).drew)).pop Ay cy no q.way z2 hy _ rfl;have z0:=Lib.hid (show∃q'',q''.st=st'/\q''.way=q.way/\Wk (wr.drew.setCell ⟨g,8,none⟩ (.slice Ay q.way.length cy)) base g m tree fuel q''/\WkK base w (wr.drew.setCell ⟨g,8,none⟩ (.slice Ay q.way.length cy))/\WkB q'' (s+1) from
     ⟨{qf with Wy:= .slice Ay q.way.length cy,way:=q.way},z1,rfl,u1,z4.trans ((WkK.of_below ((D6 _ _).drew) z3.bs).trans u2),⟨z5.eb,z5.bb,z5.fb,z5.l0,z5.l1,z5.d0,z5.d1,z5.s1⟩⟩)
    clear z1 z2 z3 z4 z5 u1 u2 hy HF;go_wp2;go_region
    go_wp2
    (try simp only[Exit.inBlock,Exit.then])
    first|(refine Kk (by rfl) rfl ?_;exact⟨rfl,z0.out⟩)|(refine bodyPost_ret (results_none rfl _ _ _) rfl ?_;exact⟨rfl,z0.out⟩)
theorem visit_ok{bs:List UInt8}{tree fuel:Int}{base g m:Nat}(hfu:fuel<=1000000):∀d,Ro bs tree fuel base g m d
 |0=>Rw hfu 0 (fun d' h=>absurd h (by omega))
 |d+1=>Rw hfu (d+1) (fun d' h=>by
  obtain rfl:d=d':=by omega
  exact visit_ok hfu d)
structure OV(base:Nat)(q:WkS)(w w':World):Prop where
 e:w'.ownsRow base 146 3 q.E q.st.ents.length (ev q.st.ents)
 b:w'.ownsRow base 3 1 q.Bk q.nb.length (iv q.nb)
 f:w'.ownsRow base 32 1 q.F q.fl.length q.fl
 fe:∀v∈q.fl,Qy 40 w' w'.heap.size v
 bad:q.st.bad=decide (q.fl≠[])
 bnd:WkB q 1
 bel:Below base w w'
theorem OV.of{base g m r:Nat}{tree fuel:Int}{q:WkS}{w w4 w5:World}{cs:Array Value}{fz:Nat×Nat}(h:Wk w4 base g m tree fuel q)(hK:Below base w w4)(hr:w4.heap[r]?=some (.cells cs 140 fz))(hbr:base<=r)(hg:w4.grownBy w5 (some r))(hB:WkB q 1):OV base q w w5:=
 ⟨h.e.kept hg (.inr (Qi hr (by decide) h.e).symm),h.b.kept hg (.inr (Qi hr (by decide) h.b).symm),h.f.kept hg (.inr (Qi hr (by decide) h.f).symm),fun v hv=>((h.fe v hv).grown hr (by decide) hg).more hg.size,h.bad,hB,hK.grown hg h.bs (fun k e=>by cases e;exact hbr)⟩
theorem Zz(W:World)(b:Nat)(x0 x1 x2 x3 x4:Value):W.grownBy (((((W.setCell ⟨b,0,none⟩ x0).setCell ⟨b,1,none⟩ x1).setCell ⟨b,2,none⟩ x2).setCell ⟨b,3,none⟩ x3).setCell ⟨b,4,none⟩ x4) (some b):=by
 have h:=ZQ W b x0 x1 x2 x3;have k:=Qo ((((W.setCell ⟨b,0,none⟩ x0).setCell ⟨b,1,none⟩ x1).setCell ⟨b,2,none⟩ x2).setCell ⟨b,3,none⟩ x3) b 4 x4;exact⟨k.os.trans h.os,k.tape.trans h.tape,k.output.trans h.output,D3 h.size k.size,fun j hj hr=>(k.block j (Nh hj h.size) hr).trans (h.block j hj hr)⟩
def wk0:WkS:=⟨.slice none 0 0, .slice none 0 0, .slice none 0 0, .slice none 0 0,ws0,[],[],[]⟩
theorem scan_any{bs:List UInt8}{m:Nat}(root tree fuel:Int)(hfu:fuel<=1000000)(w:World)(hi:ZH w w.heap.size m bs):
  Calls prog 122 #[.pointer (some ⟨m,0,none⟩), .int .i64 root, .int .i64 tree, .int .i64 fuel] w fun e w'=>∃q:WkS,q.st=QP bs root tree fuel/\
   e= .returned (.agg #[q.E,q.Bk, .int .i64 q.st.deep, .int .i64 q.st.looked,q.F])/\OV w.heap.size q w w':=by
 obtain⟨w2,z6⟩:=DR ((w.alloc (.cells #[.slice none 0 0, .slice none 0 0, .int .i64 0, .int .i64 0, .slice none 0 0] 140)).alloc (.cells #[.slice none 0 0, .slice none 0 0, .int .i64 0, .int .i64 0, .slice none 0 0, .pointer (some ⟨m,0,none⟩), .int .i64 tree, .int .i64 fuel, .slice none 0 0, .bool false] 326));have z9:Below w.heap.size w w2:=by rw[z6];exact(Qd w _).trans ((Qd _ _).mono (by simp))
 have zb:w2.heap[w.heap.size+1]?=some (.cells (wk0.cells m tree fuel) 326):=by
  rw[z6,show w.heap.size+1=(w.alloc (.cells #[.slice none 0 0, .slice none 0 0, .int .i64 0, .int .i64 0, .slice none 0 0] 140)).heap.size by simp]
  exact heap_alloc_new _ _
 have ze:w2.heap[w.heap.size]?=some (.cells #[.slice none 0 0, .slice none 0 0, .int .i64 0, .int .i64 0, .slice none 0 0] 140):=by
  rw[z6];exact Qj (heap_alloc_new w _) _
 have zi:=DY ze;have zd:=DY (show Wk w2 w.heap.size (w.heap.size+1) m tree fuel wk0 from
  ⟨zb,Nb _ _ _ _,Nb _ _ _ _,Nb _ _ _ _,Nb _ _ _ _, .inl rfl,fun v hv=>(by cases hv),rfl,Nat.le_succ _⟩)
 have zh:=DY z9;have zf:=DY (hi.below z9);have KA:=Ko w2;clear z9 zb ze hi;go_enter func122,ntmps122
 go_upto_region 2 with fail
 rw[show(w.alloc (.cells #[.slice none 0 0, .slice none 0 0, .int .i64 0, .int .i64 0, .slice none 0 0] 140)).alloc (.cells #[.slice none 0 0, .slice none 0 0, .int .i64 0, .int .i64 0, .slice none 0 0, .pointer (some ⟨m,0,none⟩), .int .i64 tree, .int .i64 fuel, .slice none 0 0, .bool false] 326)=w2 from z6.symm]
 clear z6;go_wp2_with fail
 refine KA.mono ?_;rintro e w3 ⟨rfl,z7⟩;have zg:=DY (Qe zi z7);have zc:=DY (WkK.of_below z7 zd.out.bs);have KV:=visit_ok hfu 16 wk0 w3 root 0 281474976710656 0 (zd.out.keep z7) (zf.out.below zc.out.1) rfl ⟨by decide,by decide,by decide,by decide,by decide,by decide,by decide,by decide⟩ (by decide)
 clear KA z7;go_wp2_with fail
 refine KV.mono ?_;rintro e w4 ⟨rfl,q,z1,z2,z3,z4,z5⟩;have z0:=z4.2 _ _ _ _ zg.out (by decide) (by decide) (by decide) (by decide);obtain⟨E0,E1,hE⟩:=QI z3.e;obtain⟨B0,B1,hB⟩:=QN z3.b;obtain⟨F0,F1,hF⟩:=QN z3.f;have z8:=z3.bx;unfold WkS.cells at z8;rw[hE,hB,hF] at z8;obtain⟨k0,k1,k2,k3,k4⟩:=DX z8;obtain⟨c0,c1,c2,c3,c4⟩:=DX z0;have f0:=Qf z0 0;have f1:=Qf z0 1;have f2:=Qf z0 2;have f3:=Qf z0 3;have f4:=Qf z0 4;have za:=DY (DZ z1 (DZ z3 (DZ z4 (DZ z5 (DZ z0 (DZ hE (DZ hB hF)))))));clear z1 z2 z3 z4 z5 z0 z8 hE hB hF KV;go_wp2;refine bodyPost_ret (v:= .agg #[.slice E0 q.st.ents.length E1, .slice B0 q.nb.length B1, .int .i64 q.st.deep, .int .i64 q.st.looked, .slice F0 q.fl.length F1]) (by rw[YE rfl];go_simp) rfl ?_;obtain⟨z1,z3,z4,z5,z0,hE,hB,hF⟩:=za.out;exact⟨q,z1,by rw[hE,hB,hF],OV.of z3 (zh.out.trans (zc.out.1.trans z4.1)) z0 (Na _) (Zz _ _ _ _ _ _ _) z5⟩
def UN(base g m gc n:Nat)(A:Option Addr)(c:Nat)(bs:List UInt8)(q:Option (List Int))(w:World)(e:Ending)(w':World):Prop:=
 w.grownBy w' (Value.slice A n c).ownBlock/\((∃cs',q=some cs'/\e= .returned .nilIface/\Rch w' base g m gc n A c bs cs')∨(q=none/\∃v,e= .returned v/\Qy 20 w' w'.heap.size v))
def GD(d:Nat):Prop:=∀(w:World) (base g m gc n:Nat) (A:Option Addr) (c:Nat) (bs:List UInt8) (cs:List Int) (no as_ N:Int),base<=w.heap.size->Rch w base g m gc n A c bs cs->Q1 cs<d->Okc N cs->N<=1000000000->
 Calls prog 77 #[.pointer (some ⟨g,0,none⟩), .int .i64 no, .int .i64 as_] w (UN base g m gc n A c bs (QJ bs d (no,as_) cs) w)
theorem UN.from{base g m gc n:Nat}{A:Option Addr}{c:Nat}{bs:List UInt8}{q:Option (List Int)}{w w2:World}{e:Ending}{w':World}(h:UN base g m gc n A c bs q w2 e w')(hg:w.grownBy w2 (Value.slice A n c).ownBlock):UN base g m gc n A c bs q w e w':=⟨QC hg h.1,h.2⟩
theorem Gq{α:Type}(f:α->List Int->Option (List Int))(l:List α)(k:Nat)(h:k<l.length)(cs:List Int):Xg f (l.drop k) cs=(f l[k] cs).bind (Xg f (l.drop (k+1))):=by
 rw[NO h]
 rfl
theorem Oz{d:Nat}(hR:GD d)(w:World)(base g m gc n:Nat)(A:Option Addr)(c:Nat)(bs:List UInt8)(cs:List Int)(N:Int)(A2:Option Addr)(c2:Nat)(l:List S3)(hbs:base<=w.heap.size)(h:Rch w base g m gc n A c bs cs)(hz:Q1 cs<d)(ho:Okc N cs)(hN:N+l.length<=1000000000)(hlb:l.length<=1000)
  (hs:∀w',w.grownBy w' (Value.slice A n c).ownBlock->ZI w' w'.heap.size A2 l):
  Calls prog 198 #[.pointer (some ⟨g,0,none⟩), .slice A2 l.length c2] w (UN base g m gc n A c bs (Xg (fun s:S3=>QJ bs d (s.1,-2)) l cs) w):=by
 obtain⟨f,hf⟩:∃f:S3->List Int->Option (List Int),f=fun s:S3=>QJ bs d (s.1,-2):=⟨_,rfl⟩
 rw[<-hf];have HF:=DY hf;have HS:=DY hs;have HR:=DY hR;have HN:=DY hN;have z7:=DY hbs;obtain⟨q,hq⟩:=DR (Xg f l cs);rw[<-hq];have HQ:=DY hq;have HW:=DY (DZ h (DZ hz ho));clear hq hs hR hN hf h hz ho hbs;go_enter func198,ntmps198
 go_wp2_with fail
 go_loopw [10] (fun i wr=>∃(k:Nat) (z0:List Int),k<=l.length/\i= .int .i64 k/\Hid (w.grownBy wr (Value.slice A n c).ownBlock/\Rch wr base g m gc n A c bs z0/\q=Xg f (l.drop k) z0/\Q1 z0<d/\Okc (N+k) z0)) (fun i _=>l.length-(intOf i).toNat)
 case atStart=>exact⟨0,cs,by omega,rfl,DY ⟨NT w _,HW.out.1,by rw[HQ.out,Lw],HW.out.2.1,by simpa using HW.out.2.2⟩⟩
 case round=>
  obtain⟨k,z0,hk,rfl,HH⟩:=hrel;by_cases hlt:k<l.length
  ·obtain⟨b,o,rfl,hb',hc⟩:=(HS.out wr HH.out.1) (by omega);have he:l[k]?=some l[k]:=D1 hlt;obtain⟨x0,x1,x2,hx⟩:∃x0 x1 x2,l[k]=(x0,x1,x2):=⟨_,_,_,rfl⟩;rw[hx] at he;obtain⟨e0,e1,e2⟩:=hc k _ he;dsimp only at e0 e1 e2;obtain⟨wa,z6,z3,-⟩:=DS wr (.cells #[.int .i64 x0, .int .i64 x1, .int .i64 x2] 148);have ca:wa.cell? ⟨wr.heap.size,0,none⟩=some (.int .i64 x0):=by rw[z6];exact Qa (heap_alloc_new wr _) 0 rfl
   have K:=HR.out wa base g m gc n A c bs z0 x0 (-2) (N+k) (D3 z7 (D3 HH.out.1.size z3.size)) (HH.out.2.1.below z3 (D3 z7 HH.out.1.size)) HH.out.2.2.2.1 HH.out.2.2.2.2 (by have:=HN.out;omega);have HE:=DY (show q=(QJ bs d (x0,-2) z0).bind (Xg f (l.drop (k+1))) by rw[HH.out.2.2.1,Gq f l k hlt z0,hx,HF.out])
   have HO:=DY (show∀z1,QJ bs d (x0,-2) z0=some z1->Okc (N+k+1) z1/\z1.length=z0.length/\Q1 z1<=Q1 z0 from fun z1 h2=>Us d _ z0 z1 _ h2 HH.out.2.2.2.2);have z8:=DY z3;clear hx he hc z3 hb';generalize QJ bs d (x0,-2) z0=q2 at*;go_upto_region 4 with fail
   rw[<-z6];clear z6 e0 e1 e2;go_wp2_with fail
   refine K.mono ?_;rintro e w2 ⟨z5,⟨z1,z2,rfl,z9⟩|⟨z2,v,rfl,hv⟩⟩
   ·have HG:=Lib.hid (QC (QC HH.out.1 (Qz z8 _)) z5);have za:=Lib.hid z9;have z4:=Lib.hid z2;clear K z5 z2 z9;go_wp2;go_roundw
    case rel=>
     obtain⟨o1,o2,o3⟩:=HO.out z1 z4;exact⟨k+1,z1,by omega,by go_num,DY ⟨HG.out,za.out,by rw[HE.out,z4.out];rfl,LG o3 HH.out.2.2.2.1,o1.up (by omega)⟩⟩
    case measure=>simp[intOf];omega
   ·have HG:=Lib.hid (QC (QC HH.out.1 (Qz z8 _)) z5);have HV:=Lib.hid hv;have z4:=Lib.hid z2;obtain⟨t,x,rfl⟩:=hv.form;clear K z5 z2 hv;go_wp2;go_ret;exact⟨HG.out, .inr ⟨by rw[HE.out,z4.out];rfl,_,rfl,HV.out⟩⟩
  ·obtain rfl:k=l.length:=by omega
   go_wp2;go_ret;exact⟨HH.out.1, .inl ⟨z0,by rw[HH.out.2.2.1,LD];rfl,rfl,HH.out.2.1⟩⟩
theorem Eb{v:List UInt8}:∃x0 x1 x2,rdN Q5 v=[x0,x1,x2]:=by
 have h:=Vv Q5 v;generalize rdN Q5 v=l at*
 match l,h with
 |[x0,x1,x2],_=>exact⟨x0,x1,x2,rfl⟩
theorem valP_slot{bs:List UInt8}{d:Nat}{n:QF}{v:List UInt8}{cs:List Int}(h1:n.leaf=true)(h2:n.t=4):Vo (QJ bs d) n v cs=if rdE Q5 v=0 then QJ bs d ((rdN Q5 v).getD 0 0,-2) cs else none:=by
 unfold Vo Oy;rw[if_pos ⟨h1,h2⟩]
 split<;>rfl
theorem valP_top{bs:List UInt8}{d:Nat}{n:QF}{v:List UInt8}{cs:List Int}(h1:n.leaf=true)(h2:n.t=1):Vo (QJ bs d) n v cs=if rdE [QB] v=0 then QJ bs d (rd1 QB v,2) cs else none:=by
 unfold Vo Oy;rw[if_neg (by rw[h2];simp),if_pos ⟨h1,h2⟩]
 split<;>rfl
theorem valP_inner{bs:List UInt8}{d:Nat}{n:QF}{v:List UInt8}{cs:List Int}(h1:n.leaf=false):Vo (QJ bs d) n v cs=if rdE [QB] v=0 then QJ bs d (rd1 QB v,n.t) cs else none:=by
 unfold Vo Oy;rw[if_neg (by rw[h1];simp),if_neg (by rw[h1];simp),if_pos h1]
 split<;>rfl
theorem valP_leaf{bs:List UInt8}{d:Nat}{n:QF}{v:List UInt8}{cs:List Int}(h1:n.leaf=true)(h2:n.t≠4)(h3:n.t≠1):Vo (QJ bs d) n v cs=some cs:=by
 unfold Vo Oy;rw[if_neg (by simp[h2]),if_neg (by simp[h3]),if_neg (by rw[h1];simp)]
 rfl
theorem rval_any{d:Nat}(hR:GD d)(w:World)(base g m gc n:Nat)(A:Option Addr)(c:Nat)(bs:List UInt8)(cs:List Int)(no N:Int)(x:QF)(A3 A4:Option Addr)(k3 k4 c3 c4:Nat)(v:List UInt8)(hbs:base<=w.heap.size)(h:Rch w base g m gc n A c bs cs)(hz:Q1 cs<d)(ho:Okc N cs)(hN:N<=1000000000)(hv:v.length<=reachBytes):
  Calls prog 199 #[.pointer (some ⟨g,0,none⟩), .int .i64 no, .agg #[.int .i64 x.t, .bool x.leaf, .slice A3 k3 c3, .slice A4 k4 c4], .string ⟨v.toArray⟩] w (UN base g m gc n A c bs (Vo (QJ bs d) x v cs) w):=by
 obtain⟨w1,zb,zc,z7⟩:=DS w (.cells #[.int .i64 x.t, .bool x.leaf, .slice A3 k3 c3, .slice A4 k4 c4] 113);have k0:w1.cell? ⟨w.heap.size,0,none⟩=some (.int .i64 x.t):=Qa z7 0 rfl;have k1:w1.cell? ⟨w.heap.size,1,none⟩=some (.bool x.leaf):=Qa z7 1 rfl;have z2:=DY zc;have KS:=VF v w1 hv;have KR:=YD v w1 hv;have HT:=DY (fun(e:Int) (w2:World)=>Xk 0 no (.iface 37 (.int .i64 e)) w2 (Qy.num _ _ _ _));have HC:=DY (show∀(w2:World),Below w.heap.size w w2->∀tt as_,Calls prog 77 #[.pointer (some ⟨g,0,none⟩), .int .i64 tt, .int .i64 as_] w2 (UN base g m gc n A c bs (QJ bs d (tt,as_) cs) w2) from fun w2 z0 tt as_=>hR w2 base g m gc n A c bs cs tt as_ N (D3 hbs z0.size) (h.below z0 hbs) hz ho hN)
 have z8:=DY (show∀(w2:World) q e w',Below w.heap.size w w2->UN base g m gc n A c bs q w2 e w'->UN base g m gc n A c bs q w e w' from fun w2 q e w' z0 h2=>h2.from (Qz z0 _));have zd:=DY (show∀w2,Below w.heap.size w w2->UN base g m gc n A c bs (some cs) w (.returned .nilIface) w2 from fun w2 z0=>⟨Qz z0 _, .inl ⟨cs,rfl,rfl,h.below z0 hbs⟩⟩);have z9:=DY (show∀w2 v,Below w.heap.size w w2->Qy 1 w2 w2.heap.size v->UN base g m gc n A c bs none w (.returned v) w2 from fun w2 v z0 hv=>⟨Qz z0 _, .inr ⟨rfl,v,rfl,hv.up (by decide)⟩⟩);obtain⟨x0,x1,x2,hx⟩:=Eb (v:=v);have V1:=DY (valP_slot (bs:=bs) (d:=d) (n:=x) (v:=v) (cs:=cs));have V2:=DY (valP_top (bs:=bs) (d:=d) (n:=x) (v:=v) (cs:=cs));have V3:=DY (valP_inner (bs:=bs) (d:=d) (n:=x) (v:=v) (cs:=cs));have V4:=DY (valP_leaf (bs:=bs) (d:=d) (n:=x) (v:=v) (cs:=cs));rw[hx] at KS V1;replace KS:Calls prog 71 #[.string ⟨v.toArray⟩] w1 fun e w'=>e= .returned (.tuple #[.agg #[.int .i64 x0, .int .i64 x1, .int .i64 x2], .int .i64 (rdE Q5 v)])/\Below w1.heap.size w1 w':=KS
 clear hx hR h hz ho hN hv hbs zc z7;generalize Vo (QJ bs d) x v cs=q at*;generalize rdE Q5 v=es at*;generalize rdE [QB] v=er at*;generalize rd1 QB v=rt at*;go_enter func199,ntmps199
 go_upto_region 1 with fail
 rw[<-zb];clear zb;have za:=DY (show∃t,x.t=t from⟨_,rfl⟩);obtain⟨t,ht⟩:=za.out;have z5:=DY ht;rw[ht] at k0;clear ht za;cases hlf:x.leaf with
 |false=>
  have z3:=DY hlf;rw[hlf] at k1;clear hlf;go_wp2_with fail
  refine KR.mono ?_;rintro e w2 ⟨rfl,z0⟩;have z1:=DY z0;clear KR z0 k0 k1 KS;by_cases he:er=0
  ·have HV:=DY (show q=QJ bs d (rt,t) cs by rw[V3.out z3,z5.out,if_pos he]);have K:=HC.out w2 (Qb z2 z1) (rt) (t);subst he;generalize QJ bs d (rt,t) cs=q2 at*;go_wp2_with fail
   refine K.mono ?_;rintro e w3 h3;have H3:=DY (z8.out w2 _ _ _ (Qb z2 z1) h3);rcases h3 with⟨hg,⟨cs',hq,rfl,hr⟩|⟨hq,u,rfl,hu⟩⟩
   ·clear K hg hq hr;go_wp2;go_ret;rw[HV.out];exact H3.out
   ·obtain⟨ut,ux,rfl⟩:=hu.form;clear K hg hq hu;go_wp2;go_ret;rw[HV.out];exact H3.out
  ·have HV:=DY (show q=none by rw[V3.out z3,z5.out,if_neg he]);have d1:(er !=0)=true:=by rw[bne_iff_ne];exact he
   have K:=HT.out er w2;clear he;go_wp2_with fail
   refine K.mono ?_;rintro e w3 ⟨u,rfl,hu,z4⟩;have HU:=DY hu;have z6:=DY z4;obtain⟨ut,ux,rfl⟩:=hu.form;clear K hu z4;go_wp2;go_ret;rw[HV.out];exact z9.out w3 _ (Qb (Qb z2 z1) z6) HU
 |true=>
  have z3:=DY hlf;rw[hlf] at k1;clear hlf;by_cases h4:t=4
  ·have H4:=DY (show x.t=4 by rw[z5.out,h4]);subst h4;go_wp2_with fail
   refine KS.mono ?_;rintro e w2 ⟨rfl,z0⟩;have z1:=DY (Qb z0 (Qd w2 (.cells #[.int .i64 x0, .int .i64 x1, .int .i64 x2] 148)));clear KS z0 k0 k1 KR;by_cases he:es=0
   ·have HV:=Lib.hid (show q=QJ bs d (x0,-2) cs from(V1.out z3 H4).trans (if_pos he));have K:=HC.out (w2.alloc (.cells #[.int .i64 x0, .int .i64 x1, .int .i64 x2] 148)) (Qb z2 z1) (x0) (-2);subst he;generalize QJ bs d (x0,-2) cs=q2 at*;go_wp2_with fail
    refine K.mono ?_;rintro e w3 h3;have H3:=Lib.hid (z8.out (w2.alloc (.cells #[.int .i64 x0, .int .i64 x1, .int .i64 x2] 148)) _ _ _ (Qb z2 z1) h3);rcases h3 with⟨hg,⟨cs',hq,rfl,hr⟩|⟨hq,u,rfl,hu⟩⟩
    ·clear K hg hq hr;go_wp2;go_ret;rw[HV.out];exact H3.out
    ·obtain⟨ut,ux,rfl⟩:=hu.form;clear K hg hq hu;go_wp2;go_ret;rw[HV.out];exact H3.out
   ·have HV:=Lib.hid (show q=none from(V1.out z3 H4).trans (if_neg he));have d1:(es !=0)=true:=by rw[bne_iff_ne];exact he
    have K:=HT.out es (w2.alloc (.cells #[.int .i64 x0, .int .i64 x1, .int .i64 x2] 148));clear he;go_wp2_with fail
    refine K.mono ?_;rintro e w3 ⟨u,rfl,hu,z4⟩;have HU:=Lib.hid hu;have z6:=Lib.hid z4;obtain⟨ut,ux,rfl⟩:=hu.form;clear K hu z4;go_wp2;go_ret;rw[HV.out];exact z9.out w3 _ (Qb (Qb z2 z1) z6) HU
  ·by_cases h1:t=1
   ·have H1:=Lib.hid (show x.t=1 by rw[z5.out,h1]);subst h1;go_wp2_with fail
    refine KR.mono ?_;rintro e w2 ⟨rfl,z0⟩;have z1:=Lib.hid z0;clear KR z0 k0 k1 KS;by_cases he:er=0
    ·have HV:=DY (show q=QJ bs d (rt,2) cs by rw[V2.out z3 H1,if_pos he]);have K:=HC.out w2 (Qb z2 z1) (rt) (2);subst he;generalize QJ bs d (rt,2) cs=q2 at*;go_wp2_with fail
     refine K.mono ?_;rintro e w3 h3;have H3:=DY (z8.out w2 _ _ _ (Qb z2 z1) h3);rcases h3 with⟨hg,⟨cs',hq,rfl,hr⟩|⟨hq,u,rfl,hu⟩⟩
     ·clear K hg hq hr;go_wp2;go_ret;rw[HV.out];exact H3.out
     ·obtain⟨ut,ux,rfl⟩:=hu.form;clear K hg hq hu;go_wp2;go_ret;rw[HV.out];exact H3.out
    ·have HV:=DY (show q=none by rw[V2.out z3 H1,if_neg he]);have d1:(er !=0)=true:=by rw[bne_iff_ne];exact he
     have K:=HT.out er w2;clear he;go_wp2_with fail
     refine K.mono ?_;rintro e w3 ⟨u,rfl,hu,z4⟩;have HU:=DY hu;have z6:=DY z4;obtain⟨ut,ux,rfl⟩:=hu.form;clear K hu z4;go_wp2;go_ret;rw[HV.out];exact z9.out w3 _ (Qb (Qb z2 z1) z6) HU
   ·have HV:=Lib.hid (show q=some cs from V4.out z3 (by rw[z5.out];exact h4) (by rw[z5.out];exact h1));have d4:(t==4)=false:=by rw[beq_eq_false_iff_ne];exact h4
    have d1:(t==1)=false:=by rw[beq_eq_false_iff_ne];exact h1
    clear h4 h1 KR KS;go_wp2;go_ret;rw[HV.out];exact zd.out w1 z2
def Du(v1 v2:Value):Value:=match v1 with
 | .nilIface=>v2
 |v=>v
theorem U9(g:Nat)(v1 v2:Value)(w:World)(h1:w.cell? ⟨g,0,none⟩=some v1)(h2:w.cell? ⟨g,1,none⟩=some v2)(hv1:v1= .nilIface∨∃t x,v1= .iface t x)(hv2:v2= .nilIface∨∃t x,v2= .iface t x):
  Calls prog 123 #[.slice (some ⟨g,0,none⟩) 2 2] w fun e w'=>e= .returned (Du v1 v2)/\w=w':=by
 rcases hv1 with rfl|⟨t,x,rfl⟩
 ·rcases hv2 with rfl|⟨t,x,rfl⟩
  ·go_enter func123,ntmps123
   go_wp2_with fail
   refine wp_loop_rounds 3 ?_;rw[rounds_succ];go_wp2;rw[rounds_succ];go_wp2;rw[rounds_succ];go_wp2;go_ret;exact⟨rfl,rfl⟩
  ·go_enter func123,ntmps123
   go_wp2_with fail
   refine wp_loop_rounds 2 ?_;rw[rounds_succ];go_wp2;rw[rounds_succ];go_wp2;go_ret;exact⟨rfl,rfl⟩
 ·clear hv2;go_enter func123,ntmps123
  go_wp2_with fail
  refine wp_loop_rounds 1 ?_;rw[rounds_succ];go_wp2;go_ret;exact⟨rfl,rfl⟩
theorem Qy.row{d B base k s:Nat}{w w':World}{v u:Value}{xs:List Value}(h:Qy d w B v)(ho:w.ownsRow base 3 s u k xs)(hg:w.grownBy w' u.ownBlock):Qy d w' B v:=
 h.kept fun g cs hg'=>(hg.block g (D0.1 hg').1 (Qi hg' (by decide) ho)).trans hg'
def HasOK(d:Nat):Prop:=∀(w:World) (base g m gc n:Nat) (A:Option Addr) (c:Nat) (bs:List UInt8) (cs:List Int) (no as_ N:Int),base<=w.heap.size->Rch w base g m gc n A c bs cs->Q1 cs<d->Okc N cs->N+17<=1000000000->
 Calls prog 132 #[.pointer (some ⟨g,0,none⟩), .int .i64 no, .int .i64 as_] w (UN base g m gc n A c bs (Ud bs (QJ bs d) no as_ cs) w)
theorem rhas_index{d:Nat}(hR:GD d)(w:World)(base g m gc n:Nat)(A:Option Addr)(c:Nat)(bs:List UInt8)(cs:List Int)(no N:Int)(hbs:base<=w.heap.size)(h:Rch w base g m gc n A c bs cs)(hz:Q1 cs<d)(ho:Okc N cs)(hN:N+17<=1000000000):
  Calls prog 132 #[.pointer (some ⟨g,0,none⟩), .int .i64 no, .int .i64 (-1)] w (UN base g m gc n A c bs (Ud bs (QJ bs d) no (-1) cs) w):=by
 obtain⟨q,hq⟩:=DR (Ud bs (QJ bs d) no (-1) cs);rw[<-hq];have HQ:=DY (show q=(Zs bs no).bind fun l=>Xg (fun s:S3=>QJ bs d (s.1,-2)) l cs by rw[hq];unfold Ud;rw[if_pos rfl]);have KI:=GB h.im no;have kb:=Qa h.bx 0 rfl;have HH:=DY (DZ h (DZ hz (DZ ho (DZ hbs hN))));have HR:=DY hR;clear hq hbs h hz ho hN hR;go_enter func132,ntmps132
 go_upto_region 4 with(refine KI.mono ?_;rintro e w2 ⟨⟨L,A2,n2,c2,hL,rfl,hl,hc,z4⟩|⟨hL,v,rfl,hv⟩,z3⟩)
 ·obtain⟨h,hz,ho,hbs,hN⟩:=HH.out;obtain⟨l,z5,rfl⟩:∃l,Zs bs no=some l/\L=tv l:=by
   cases hx:Zs bs no with
   |none=>rw[hx] at hL;cases hL
   |some x=>rw[hx] at hL;cases hL;exact⟨x,rfl,rfl⟩
  rw[tv_len] at hl;obtain rfl:n2=l.length:=by omega
  have z9:=Uc z5;have h2:=h.below z3 hbs;have K:=Oz HR w2 base g m gc n A c bs cs N A2 c2 l (Nat.le_trans hbs z3.size) h2 hz ho (by omega) (by omega) (fun w' hg=>by
   obtain⟨B0,z7⟩:=h2.cn;have hn:=h2.len;subst hn;exact ZI.of_own rfl (z4.kept hg (Zk z4 z7.2.1 (by decide))))
  have HE:=DY (show q=Xg (fun s:S3=>QJ bs d (s.1,-2)) l cs by rw[HQ.out,z5,Option.bind_some]);have z6:=DY (And.intro z3 hbs);clear hL hl hc z4 z5 z9 h2 z3 hbs hN ho hz h KI kb HQ HH;generalize Xg (fun s:S3=>QJ bs d (s.1,-2)) l cs=q2 at*;go_wp2_with fail
  refine K.mono ?_;rintro e w3 ⟨z0,⟨cs',z1,rfl,z2⟩|⟨z1,v,rfl,hv⟩⟩
  ·have KF:=U9 w3.heap.size .nilIface .nilIface (w3.alloc (.cells #[.nilIface, .nilIface] 32)) (Qa (heap_alloc_new w3 _) 0 rfl) (Qa (heap_alloc_new w3 _) 1 rfl) (.inl rfl) (.inl rfl);dsimp only[Du] at KF;have HX:=DY (DZ z0 (DZ z1 z2));clear K z0 z1 z2;go_wp2_with fail
   refine KF.mono ?_;rintro e wx ⟨rfl,rfl⟩;clear KF;go_wp2;go_ret;obtain⟨z0,z1,z2⟩:=HX.out;refine⟨QC (QC (Qz z6.out.1 _) z0) (Qz (Qd _ _) _), .inl ⟨cs',by rw[HE.out,z1],rfl,z2.below (Qd _ _) (D3 z6.out.2 (D3 z6.out.1.size z0.size))⟩⟩
  ·obtain⟨t,x,rfl⟩:=hv.form;have KF:=U9 w3.heap.size .nilIface (.iface t x) (w3.alloc (.cells #[.nilIface, .iface t x] 32)) (Qa (heap_alloc_new w3 _) 0 rfl) (Qa (heap_alloc_new w3 _) 1 rfl) (.inl rfl) (.inr ⟨t,x,rfl⟩);dsimp only[Du] at KF;have HX:=DY (DZ z0 (DZ z1 hv));clear K z0 z1 hv;go_wp2_with fail
   refine KF.mono ?_;rintro e wx ⟨rfl,rfl⟩;clear KF;go_wp2;go_ret;obtain⟨z0,z1,hv⟩:=HX.out;exact⟨QC (QC (Qz z6.out.1 _) z0) (Qz (Qd _ _) _), .inr ⟨by rw[HE.out,z1],_,rfl,hv.ext (Qd _ _)⟩⟩
 ·obtain⟨h,hz,ho,hbs,hN⟩:=HH.out;have z5:Zs bs no=none:=by
   cases hx:Zs bs no with
   |none=>rfl
   |some x=>rw[hx] at hL;cases hL
  have h2:=h.below z3 hbs;have K:=Oz HR w2 base g m gc n A c bs cs N none 0 [] (D3 hbs z3.size) h2 hz ho (by simp;omega) (by simp) (fun w' hg hp=>absurd hp (by simp));have HE:=DY (show q=none by rw[HQ.out,z5];rfl);have z6:=DY (And.intro z3 hbs);have HV:=DY (show∀w',w2.grownBy w' (Value.slice A n c).ownBlock->Qy 1 w' w'.heap.size v from fun w' hg=>by
   obtain⟨B0,z7⟩:=h2.cn;have hn:=h2.len;subst hn;exact(hv.row z7.2.1 hg).more hg.size)
  obtain⟨t,x,rfl⟩:=hv.form;rw[NV] at K;clear hL z5 h2 z3 hbs hN ho hz h KI kb HQ HH hv;go_wp2_with fail
  refine K.mono ?_;rintro e w3 ⟨z0,⟨cs',z1,rfl,z2⟩|⟨z1,v,rfl,hv⟩⟩
  ·have KF:=U9 w3.heap.size (.iface t x) .nilIface (w3.alloc (.cells #[.iface t x, .nilIface] 32)) (Qa (heap_alloc_new w3 _) 0 rfl) (Qa (heap_alloc_new w3 _) 1 rfl) (.inr ⟨t,x,rfl⟩) (.inl rfl);dsimp only[Du] at KF;have HX:=DY (DZ z0 z2);have z8:=DY (HV.out w3 z0);clear K z0 z1 z2;go_wp2_with fail
   refine KF.mono ?_;rintro e wx ⟨rfl,rfl⟩;clear KF;go_wp2;go_ret;obtain⟨z0,z2⟩:=HX.out;exact⟨QC (QC (Qz z6.out.1 _) z0) (Qz (Qd _ _) _), .inr ⟨HE.out,_,rfl,(z8.out.ext (Qd _ _)).up (by decide)⟩⟩
  ·cases z1
end Go.Proofs.YtijcgllddnpmhaaGreatDoor
