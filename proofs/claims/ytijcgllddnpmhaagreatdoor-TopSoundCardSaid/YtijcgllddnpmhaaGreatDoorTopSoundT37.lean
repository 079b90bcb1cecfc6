/- TopSound: lemmas, part 37. -/
import Derived.Test.YtijcgllddnpmhaaGreatDoorTopSoundT36
set_option maxRecDepth 100000
set_option maxHeartbeats 16000000
set_option linter.all false
namespace Go.Proofs.YtijcgllddnpmhaaGreatDoor
open Go.RowKit Go.Proofs.Tryz
def cm0:List Int:=[1,1,1,1,1,1,1,0,0,0,0,0]
def ca0:List Int:=[1,1,1,1,1,1,1,1,1,1,0,0]
theorem cm0_split:(Y8 cm0).length=1/\VH cm0=[]/\Yq cm0=0:=by decide+kernel
theorem Kh:Y8 ca0=[ca0]/\VH ca0=[]/\Yq ca0=0:=by decide+kernel
theorem Gz:Uj ca0=0/\Yb 3 8 (Z2 ca0)=0/\(QX 3 8 (Z2 ca0)).length=256:=by decide+kernel
def Kq:S3:=(8,(Q9 ca0:Int),(Zp ca0:Int))
theorem O2:JR [Kq]=0/\Yb 4 9 (YO [Kq])=0/\(QX 4 9 (YO [Kq])).length=256:=by decide+kernel
theorem tr_over6:Ul 5 [] 6 18:=⟨by decide+kernel,by decide+kernel,by decide+kernel,by decide+kernel,by decide+kernel,by decide+kernel,by decide+kernel,by decide+kernel,by decide+kernel,by decide+kernel⟩
def metaB(bs:List UInt8):List UInt8:=QR (QR (QR bs 7 (QX 2 7 (Zi (QH 5 true [])))) 8 (QX 3 8 (Z2 ca0))) 9 (QX 4 9 (YO [Kq]))
theorem reads3_own{w:World}{B q c:Nat}{s:S3}{e:TypeId}(h:w.ownsRow B e 3 (.slice (some ⟨q,0,none⟩) 1 c) 1 (Rf s.1 s.2.1 s.2.2)):ZI w w.heap.size (some ⟨q,0,none⟩) [s]:=by
 exact ZI.of_own rfl h
theorem pmeta_ok{h:AlC}{w:World}{bs:List UInt8}(hA:AlM h w bs 6){q c Bc:Nat}(ho:w.ownsRow Bc 3 1 (.slice (some ⟨q,0,none⟩) 12 c) 12 (iv cm0)):
  Calls prog 111 #[.pointer (some ⟨h.ga,0,none⟩), .slice (some ⟨q,0,none⟩) 12 c] w fun e w'=>e= .returned (.tuple #[.int .i64 9, .int .i64 7, .nilIface])/\AlM h w' (metaB bs) 9/\Q6 h w w':=by
 have hmf:∀(fn:Fn) (first cap:Array Value) (w:World),(Instr.makeFunc fn first cap).run prog w= .ok (.func fn first cap) w:=fun _ _ _ _=>rfl
 obtain⟨zH,zE,zI⟩:=cm0_split;have KI:=YB hA;have KB:=XW hA.img;rw[hA.len] at KB;have KS:=U0 (some ⟨q,0,none⟩) c cm0 (by decide) w (Qh.of_own ho);unfold Z4 at KS;rw[zH,zE,zI] at KS;have KF:=DY (fun(W:World) (hW:Below w.heap.size w W)=>Rk (hA.below hW) (by decide));have KN:=DY (fun(t n:Int) (W:World) (hn:Yu t n=1)=>(show Calls prog 105 #[.int .i64 t, .int .i64 n] W fun e w'=>e= .returned (.int .i64 1)/\Below W.heap.size W w' from by
  have:=Yt t n W;rw[hn] at this;exact this))
 have KC:=DY (fun(W:World) (hW:Below w.heap.size w W)=>Jv (some ⟨q,0,none⟩) c cm0 W _ (Na _) (by decide) (Qh.of_own (Qk ho hW)));have KA:=DY (fun(W:World) (hW:Below w.heap.size w W)=>ahead_ok (hA.below hW));have HA:=DY hA;clear hA ho zH zE zI;go_enter func111,ntmps111
 go_wp2_with fail
 refine KI.mono ?_;rintro e w1 ⟨rfl,rfl⟩;clear KI;go_wp2_with fail
 refine KB.mono ?_;rintro e w1 ⟨rfl,rfl⟩;clear KB;go_wp2_with fail
 refine KS.mono ?_;rintro e w2 ⟨A1,c1,A2,c2,rfl,-,-,zF⟩;rw[show([]:List Qv).length=0 from rfl] at*
 have q7:=DY zF;clear KS zF;go_wp2_with fail
 refine(KN.out 5 0 _ nod50).mono ?_;rintro e w3 ⟨rfl,zT⟩;have zK:=DY (Qb q7 zT);clear zT;go_wp2_with fail
 refine(bitmaps12 w3).mono ?_;rintro e w4 ⟨rfl,rfl⟩;have K4:=KF.out w3 zK;rw[show((11-6:Nat):Int)=5 from rfl] at K4
 go_wp2_with fail
 refine K4.mono ?_;rintro e w4 ⟨rfl,zX⟩;have zV:Below w3.heap.size w3 w4:=zX.symm▸(D6 w3.heap.size w3).drew;have zt:=DY (Qb zK zV);have K5:=KC.out w4 zt;clear K4 zX zV;go_wp2_with fail
 refine K5.mono ?_;rintro e w5 ⟨A5,c5,rfl,zl,zD⟩;rw[show(iv cm0).length=12 from rfl] at zl ⊢
 obtain⟨qa,rfl⟩:=Zj zl (by decide);have zP:=DY (Qb zt zD);have zs:=DY zl;have K6:=KA.out w5 zP;clear K5 zl zD;go_wp2_with fail
 refine K6.mono ?_;rintro e w6 ⟨A6,c6,rfl,zm,zx⟩;obtain⟨qn,rfl⟩:=Zj zm (by decide);have zY:=DY (Qb zP zx);have zn:=DY (Qk zs zx);have zW:=DY zm;have zL:qn≠qa:=by
  intro e;subst e;have h1:=(zs.out.lt qn rfl).2;have h2:=(zm.lt qn rfl).1;omega
 clear K6 zm zx;go_wp2_with fail
 have zG:w.heap.size<=qa:=by
  have h1:=(zs.out.lt qa rfl).1;have h2:=zt.out.size;omega
 have z9:=DY (DZ zG zL);clear zG zL;refine wp_loop_rounds 4 ?_;rw[rounds_succ];have cn:w6.cell? ⟨qn,0,none⟩=some (.int .i64 7):=QW zW 0 _ rfl;have ca:w6.cell? ⟨qa,7,none⟩=some (.int .i64 0):=QW zn 7 _ rfl;have fa:=zn.out.frozenAt 7;obtain⟨w7,zu⟩:=DR (w6.setCell ⟨qa,7,none⟩ (.int .i64 1));have z0:=zn.out.stored 7 (.int .i64 1);rw[<-zu] at z0;have zA:=DY z0.1;have zR:=DY (zW.out.kept z0.2 (.inr (by simp[Value.ownBlock];exact z9.out.2)));have zS:=DY (zY.out.grown z0.2 zY.out.size (fun k hk=>by cases hk;exact z9.out.1));clear z0;go_wp2_with fail
 rw[<-zu];clear zu cn ca fa;rw[rounds_succ];have cn:w7.cell? ⟨qn,1,none⟩=some (.int .i64 8):=QW zR 1 _ rfl;have ca:w7.cell? ⟨qa,8,none⟩=some (.int .i64 0):=QW zA 8 _ rfl;have fa:=zA.out.frozenAt 8;obtain⟨w8,zp⟩:=DR (w7.setCell ⟨qa,8,none⟩ (.int .i64 1));have z0:=zA.out.stored 8 (.int .i64 1);rw[<-zp] at z0;have zv:=DY z0.1;have zU:=DY (zR.out.kept z0.2 (.inr (by simp[Value.ownBlock];exact z9.out.2)));have zN:=DY (zS.out.grown z0.2 zS.out.size (fun k hk=>by cases hk;exact z9.out.1));clear z0;go_wp2_with fail
 rw[<-zp];clear zp cn ca fa;rw[rounds_succ];have cn:w8.cell? ⟨qn,2,none⟩=some (.int .i64 9):=QW zU 2 _ rfl;have ca:w8.cell? ⟨qa,9,none⟩=some (.int .i64 0):=QW zv 9 _ rfl;have fa:=zv.out.frozenAt 9;obtain⟨w9,zq⟩:=DR (w8.setCell ⟨qa,9,none⟩ (.int .i64 1));have z0:=zv.out.stored 9 (.int .i64 1);rw[<-zq] at z0;have q4:=DY z0.1;have HN9:=DY (zU.out.kept z0.2 (.inr (by simp[Value.ownBlock];exact z9.out.2)));have zQ:=DY (zN.out.grown z0.2 zN.out.size (fun k hk=>by cases hk;exact z9.out.1));clear z0;go_wp2_with fail
 rw[<-zq];clear zq cn ca fa;rw[rounds_succ];have zr:=HA.out.below zQ;have K9:=tree0_ok zr (by omega) A2 c2 tr_over6;have zZ:=DY zr;clear zr;go_wp2_with fail
 refine K9.mono ?_;rintro e zM ⟨rfl,zb,z3⟩;have ze:zM.ownsRow w4.heap.size 3 1 (.slice (some ⟨qa,0,none⟩) 12 c5) 12 (iv ca0):=zZ.out.own z3 q4.out (by decide) (by decide);have zd:=DY ((Q6.of_below zQ).trans z3);have zy:=DY zb;have zk:=U0 (some ⟨qa,0,none⟩) c5 ca0 (by decide) zM (Qh.of_own ze);unfold Z4 at zk;rw[Kh.1,Kh.2.1,Kh.2.2] at zk;clear K9 zb z3 ze;go_wp2_with fail
 refine zk.mono ?_;rintro e q2 ⟨A11,c11,A12,c12,rfl,hl,-,z7⟩;rw[show([ca0]:List (List Int)).length=1 from rfl,show([]:List Qv).length=0 from rfl] at*
 obtain⟨w12,zi,z2,zJ⟩:=DS q2 (.cells #[.slice none 0 0] 154);have zf:=DY (Qb z7 z2);have zo:=DY (D3 zd.out.size z7.size);have KP:=playM_ok (zy.out.below zf.out) (by omega) (hl.keep z2) (by decide) Gz.1 Gz.2.1 Gz.2.2 (by decide+kernel) (by decide+kernel) zJ;clear zk hl z7 z2 zJ;go_upto_region 25 with fail
 rw[<-zi];clear zi;go_wp2_with fail
 refine KP.mono ?_;rintro e q3 ⟨q0,q9,w2',rfl,z5,z1,zj,zg,zh⟩;have q5:=Qa z1 0 rfl;have zw:=DY (Q6.new ((zd.out.trans (Q6.of_below zf)).trans zg) zh zo);have zC:=DY z5;have q6:=DY z5.ib;have zB:=sput_any (some ⟨q0,0,none⟩) q9 [Kq] q3 (by decide+kernel) (by decide) (reads3_own (s:=Kq) zj);rw[O2.1] at zB;clear KP z5 z1 zj zg zh;go_wp2_with fail
 refine zB.mono ?_;rintro e w14 ⟨qb,q8,rfl,z4,z8⟩;rw[Qm] at z4 ⊢;have z6:=zC.out.below z8;have zO:=UE z6 (by omega) 4 (by decide) qb q8 (YO [Kq]) O2.2.1 O2.2.2 (fun U hU=>Qh.of_own (z6.pay q6.out hU z4 (by decide)));have zz:=DY (zw.out.trans (Q6.of_below z8));clear zB z4 z8 z6 q5;generalize (YO [Kq]).length=n14 at*;go_wp2_with fail
 refine zO.mono ?_;rintro e q1 ⟨rfl,za,zc⟩;have HF:=DY (DZ (show AlM h q1 (metaB bs) 9 from za) (zz.out.trans zc));clear zO za zc;go_wp2;go_ret3
 exact⟨rfl,HF.out.1,HF.out.2⟩
def DvZ(p:Prop):Prop:=p
theorem zeroDt(w:World):(zeroValue 196).run prog w= .ok (.agg #[.int .i64 0, .int .i64 0, .int .i64 0, .int .i64 0]) w:=by kernel_rfl
theorem zeroIn(w:World):(zeroValue 3).run prog w= .ok (.int .i64 0) w:=by kernel_rfl
theorem DI{w:World}{g base m:Nat}{bs:List UInt8}{s:Nat->Int}{fuel:Int}{bd br bm:Nat}{N nd nr nm:Nat}{D T:List Qv}{fm:Int->Option Value}{R:List Int}{v:Value}(data:Int)
  (h:Aud w g base m s fuel bd br bm false N nd nr nm (Xq Jt D) (Xq YG T) fm v) (hm:XL w base bs data fuel false R fm) (hR:∀e∈T,rd1 QB e.val∈R) (zd:∀x∈Qp D,JC x) (zi:∀x∈Qp T,JC x) (hnd:nd<=18000000) (hnr:nr<=18000000) (hN:N<=4000000000000):
  Calls prog 203 #[.pointer (some ⟨g,0,none⟩)] w fun e w'=>∃A c,∃ids:List Int,∃ds v',e= .returned (.slice A ds.length c)/\ids.Pairwise (·<·)/\(∀x,x∈ids↔x∈Qp D∨x∈Qp T)/\Aud w' g base m s fuel bd br bm (!(ids.all fun i=>(Zq bs data fuel D T i).isSome)) (N+36000000) nd nr nm (Xq Jt D) (Xq YG T) fm v'/\
   ds.length<=36000000/\((!(ids.all fun i=>(Zq bs data fuel D T i).isSome))=false->ids.mapM (Zq bs data fuel D T)=some ds)/\Qt w' w.heap.size (.slice A ds.length c) ds/\(∀d∈ds,d.maps.length<=18000000)/\Q3 g base w w':=by
 obtain⟨js,q1,q2,q3,q8⟩:=info_parts Tryz.infoDevL;have KI:=aids_any h hnd hnr;have HA:=DY (DZ h (DZ hm (DZ hR (DZ zd (DZ zi hN)))));clear h hm hR zd zi hnd hnr hN;go_enter func203,ntmps203
 go_wp2_with fail
 refine KI.mono ?_;rintro e w1 ⟨A2,c2,ids,rfl,zV,zt,zR,zP,zT⟩;have HP:=DY (DZ zR (show∀x,x∈ids↔x∈Qp D∨x∈Qp T from fun x=>by rw[zP,Ku,Ku]));have HL:=DY zT;have zZ:=HA.out.1.keep zt;have qa:=DY HA.out.1.bs;have q6:=DY (show JH g base m s fuel bd br bm N nd nr nm (Xq Jt D) (Xq YG T) fm R bs data (Zq bs data fuel D T) ids w.heap.size c2 A2 w 0 (.slice none 0 0) w1 from
  ⟨v,N,[],by simpa using zZ,by omega,by simp,fun _=>rfl,HA.out.2.1.keep zt,Qt.nil _ _,zV,Q3.of_below zt,zt.size,fun d hd=>(by cases hd)⟩)
 clear KI zV zt zR zP zT zZ;go_wp2_with fail
 go_loopw [3,14] (fun u i wr=>∃(k:Nat),k<=ids.length/\i= .int .i64 k/\Hid (JH g base m s fuel bd br bm N nd nr nm (Xq Jt D) (Xq YG T) fm R bs data (Zq bs data fuel D T) ids w.heap.size c2 A2 w k u wr)) (fun u i _=>ids.length-(intOf i).toNat)
 case atStart=>exact⟨0,by omega,rfl,q6⟩
 case round=>
  obtain⟨k,hk,rfl,HH⟩:=hrel;have q7:k<=36000000:=by have:=HL.out;omega
  have HKB:=DY q7;obtain⟨vr,N',ds,hA,hN',hl,hf,hm,ho,hi,hb,z7,hd⟩:=HH.out;obtain⟨u0,uc,rfl⟩:=ho.form;by_cases hlt:k<ids.length
  ·obtain⟨ad,rfl,-,hc⟩:=(Qh.of_own hi).num hlt;have zp:ids[k]∈ids:=Nm hlt;have zh:JC ids[k]:=by
    rcases(HP.out.2 _).1 zp with hx|hx
    ·exact HA.out.2.2.2.1 _ hx
    ·exact HA.out.2.2.2.2.1 _ hx
   obtain⟨x,hx⟩:=DR (ids[k]);rw[<-hx] at hc zh;have HX:=DY hx;have zb:=DY hlt;clear zp hx;have c14:wr.cell? ⟨g,14,none⟩=some (.map (some bd)):=Qa hA.row 14 rfl;have zS:wr.cell? ⟨g,15,none⟩=some (.map (some br)):=Qa hA.row 15 rfl;have z6:=hA.d.got (t:=343) underlying343 (zeroDt wr) zh;have z0:=DY (DZ hA (DZ hN' (DZ hl (DZ hf (DZ hm (DZ ho (DZ hi (DZ hb (DZ z7 hd)))))))));have HWF:=Lib.hid zh;cases hfD:D.find? (fun e=>decide (e.key=x)) with
   |none=>
    have zd:Xq Jt D x=none:=by unfold Xq;rw[hfD];rfl
    have hq:Zq bs data fuel D T x=none:=by unfold Zq;rw[hfD];rfl
    have HQ:=Lib.hid hq;rw[zd] at z6;simp only[Option.getD_none,Option.isSome_none] at z6;obtain⟨wa,zl,z4,-⟩:=DS wr (.cells #[.int .i64 0, .int .i64 0, .int .i64 0, .int .i64 0] 196);have z3:=hA.keep z4;have zM:=Qg z4 zS;obtain⟨v8,b9,z1⟩:∃v8 b9,(Instr.lookup 344 (.map (some br)) (.int .i64 x) true).run prog wa= .ok (.tuple #[v8, .bool b9]) wa:=⟨_,_,z3.r.got (t:=344) underlying344 (zeroIn wa) zh⟩;have KA:=Vl (w:=wa) (g:=g) (base:=base) (cs:=auC vr m s fuel bd br bm) (t:=349) z3.row (by decide) rfl z3.dmg z3.bs (by have:=HA.out.2.2.2.2.2;omega) 4 x 18;have zj:=Lib.hid z4;have z8:=Lib.hid z3;clear hA hN' hl hf hm ho hi hb z7 hd zh hfD zd hq z4 z3;go_upto_region 6 with fail
    rw[<-zl];clear zl;go_wp2_with fail
    refine KA.mono ?_;rintro e wf ⟨rfl,v5,ze,zg,z5⟩;have HF:=Lib.hid (JH.no zb.out (by rw[<-HX.out];exact HQ.out) z8.out z0.out.2.1 z0.out.2.2.1 (z0.out.2.2.2.2.1.keep zj.out) (z0.out.2.2.2.2.2.1.keep zj.out) (QT z0.out.2.2.2.2.2.2.1 zj.out) (z0.out.2.2.2.2.2.2.2.1.after zj.out) (D3 z0.out.2.2.2.2.2.2.2.2.1 zj.out.size) z0.out.2.2.2.2.2.2.2.2.2 ze (by simpa using zg) z5);clear KA ze zg z5;go_wp2;go_roundw
    case rel=>exact⟨k+1,by have:=zb.out;omega,by go_num,HF⟩
    case measure=>have:=zb.out;simp[intOf];omega
   |some d=>
    have zN:d.key=x:=by simpa using List.find?_some hfD
    have zd:Xq Jt D x=some (Jt d):=by unfold Xq;rw[hfD];rfl
    have za:Zq bs data fuel D T x=(T.find? fun e=>decide (e.key=x)).bind fun t=>DB bs data fuel d t:=by unfold Zq;rw[hfD];rfl
    rw[zd,detV_four] at z6;simp only[N8,Option.isSome_some] at z6;have zD:∀t:Qv,DB bs data fuel d t=(ZM bs data fuel (rd1 QB t.val)).bind fun l=>if(l.length:Int)=(rdN QU d.val).getD 0 0 then some ⟨d.key,(rdN QU d.val).getD 1 0,(rdN QU d.val).getD 2 0,(rdN QU d.val).getD 3 0,l⟩ else none:=fun t=>rfl
    rw[zN] at zD;generalize (rdN QU d.val).getD 0 0=a0 at*;generalize (rdN QU d.val).getD 1 0=a1 at*;generalize (rdN QU d.val).getD 2 0=a2 at*;generalize (rdN QU d.val).getD 3 0=a3 at*;obtain⟨wa,zl,z4,zx⟩:=DS wr (.cells #[.int .i64 a0, .int .i64 a1, .int .i64 a2, .int .i64 a3] 196);have z3:=hA.keep z4;have zM:=Qg z4 zS;have z1:=z3.r.got (t:=344) underlying344 (zeroIn wa) zh;have zj:=Lib.hid z4;have z8:=Lib.hid z3;have KA:=fun er=>Vl (w:=wa) (g:=g) (base:=base) (cs:=auC vr m s fuel bd br bm) (t:=349) z3.row (by decide) rfl z3.dmg z3.bs (by have:=HA.out.2.2.2.2.2;omega) 4 x er
    have zo:=Lib.hid zx;have z2:=Lib.hid (DZ (z0.out.2.2.2.2.1.keep z4) (DZ (z0.out.2.2.2.2.2.1.keep z4) (DZ (QT z0.out.2.2.2.2.2.2.1 z4) (DZ (z0.out.2.2.2.2.2.2.2.1.after z4) (D3 z0.out.2.2.2.2.2.2.2.2.1 z4.size)))));cases hfT:T.find? (fun e=>decide (e.key=x)) with
    |none=>
     have zi:Xq YG T x=none:=by unfold Xq;rw[hfT];rfl
     have hq:Zq bs data fuel D T x=none:=by rw[za,hfT];rfl
     have HQ:=DY hq;rw[zi] at z1;simp only[Option.getD_none,Option.isSome_none] at z1;have KA:=KA 18;clear hA hN' hl hf hm ho hi hb z7 hd zh hfD zd hq z4 z3 zx hfT zi za zD zN;go_upto_region 6 with fail
     rw[<-zl];clear zl;go_wp2_with fail
     refine KA.mono ?_;rintro e wf ⟨rfl,v5,ze,zg,z5⟩;have HF:=DY (JH.no zb.out (by rw[<-HX.out];exact HQ.out) z8.out z0.out.2.1 z0.out.2.2.1 z2.out.1 z2.out.2.1 z2.out.2.2.1 z2.out.2.2.2.1 z2.out.2.2.2.2 z0.out.2.2.2.2.2.2.2.2.2 ze (by simpa using zg) z5);clear KA ze zg z5;go_wp2;go_roundw
     case rel=>exact⟨k+1,by have:=zb.out;omega,by go_num,HF⟩
     case measure=>have:=zb.out;simp[intOf];omega
    |some t=>
     have zi:Xq YG T x=some (.int .i64 (rd1 QB t.val)):=by unfold Xq;rw[hfT];rfl
     have zL:=HA.out.2.2.1 t (List.mem_of_find?_eq_some hfT);obtain⟨um,zO⟩:=Option.isSome_iff_exists.1 ((hm.mem _).2 zL);obtain⟨ms,zJ,zH,zC⟩:=hm.row _ um zO;obtain⟨Am,cm,rfl⟩:=QI zJ;have zC:=zC rfl;have q4:=hm.rg _ zL;have hq:Zq bs data fuel D T x=if(ms.length:Int)=a0 then some ⟨x,a1,a2,a3,ms⟩ else none:=by rw[za,hfT,Option.bind_some,zD,zC];rfl
     rw[zi] at z1;simp only[N8,Option.isSome_some] at z1;generalize rd1 QB t.val=root at*;have zY:JC root:=by
      unfold JC;simp[Lit.wf,IntKind.min,IntKind.max,IntKind.bits,IntKind.signed];omega
     have zk:=z3.m.get (t:=345) underlying345 (zeroMs wa) zY;rw[zO] at zk;simp only[N8] at zk;have c16a:wa.cell? ⟨g,16,none⟩=some (.map (some bm)):=Qa z3.row 16 rfl;obtain⟨k0,k1,k2,k3⟩:=DW zx;have HQ:=DY hq;have zF:=DY (DZ (Qk zJ z4) zH);have zQ:=DY zH;clear hA hN' hl hf hm ho hi hb z7 hd zh hfD zd hq z4 z3 zx hfT zi za zD zN zO zJ zH zC q4 zL zY;go_upto_region 6 with fail
     rw[<-zl];clear zl;have zU:=(show∀(wz:World) (vz:Value) (Nz:Nat) (bz:Bool),((Zq bs data fuel D T x=some ⟨x,a1,a2,a3,ms⟩/\bz=!((ids.take k).all fun i=>(Zq bs data fuel D T i).isSome))∨(Zq bs data fuel D T x=none/\bz=true))->Aud wz g base m s fuel bd br bm bz Nz nd nr nm (Xq Jt D) (Xq YG T) fm vz->Nz<=N+k+1->XL wz base bs data fuel false R fm->Qt wz w.heap.size (.slice u0 ds.length uc) ds->wz.ownsRow w.heap.size 3 1 (.slice (some ad) ids.length c2) ids.length (iv ids)->Q3 g base w wz->w.heap.size<=wz.heap.size->wz.ownsRow base 52 3 (.slice Am ms.length cm) ms.length (mv ms)->wz.heap[wr.heap.size]?=some (.cells #[.int .i64 a0, .int .i64 a1, .int .i64 a2, .int .i64 a3] 196)->
      DvZ (∃(vz:Value) (Nz:Nat) (bz:Bool),((Zq bs data fuel D T x=some ⟨x,a1,a2,a3,ms⟩/\bz=!((ids.take k).all fun i=>(Zq bs data fuel D T i).isSome))∨(Zq bs data fuel D T x=none/\bz=true))/\Aud wz g base m s fuel bd br bm bz Nz nd nr nm (Xq Jt D) (Xq YG T) fm vz/\Nz<=N+k+1/\XL wz base bs data fuel false R fm/\Qt wz w.heap.size (.slice u0 ds.length uc) ds/\wz.ownsRow w.heap.size 3 1 (.slice (some ad) ids.length c2) ids.length (iv ids)/\Q3 g base w wz/\w.heap.size<=wz.heap.size/\wz.ownsRow base 52 3 (.slice Am ms.length cm) ms.length (mv ms)/\wz.heap[wr.heap.size]?=some (.cells #[.int .i64 a0, .int .i64 a1, .int .i64 a2, .int .i64 a3] 196)) from
       fun wz vz Nz bz h1 h2 h3 h4 h5 h6 h7 h8 h9 h10=>⟨vz,Nz,bz,h1,h2,h3,h4,h5,h6,h7,h8,h9,h10⟩)
     have zw:=DY zU;clear zU;by_cases hne:(ms.length:Int)=a0
     focus
      have HZ:=zw.out wa vr N' _ (.inl ⟨by rw[HQ.out,if_pos hne],rfl⟩) z8.out (by have:=z0.out.2.1;omega) z2.out.1 z2.out.2.1 z2.out.2.2.1 z2.out.2.2.2.1 z2.out.2.2.2.2 zF.out.1 zo.out;have d1:(a0 !=(ms.length:Int))=false:=by rw[hne];simp
      clear KA zw zF zo z2 z8 zj;go_upto_region 12 with fail
      obtain⟨wz,q5⟩:=DR wa;subst q5;clear d1 hne
     rotate_left
     focus
      have KA:=KA 13;have zW:=DY hne;have d1:(a0 !=(ms.length:Int))=true:=by
       rw[bne_iff_ne];exact fun e=>hne e.symm
      clear hne;go_wp2_with fail
      refine KA.mono ?_;rintro e wz ⟨rfl,v5,ze,zg,z5⟩;have zI:=z5.row zo.out (Ve zo.out z8.out.row (by decide)) (by decide);have HZ:=zw.out wz v5 (N'+1) true (.inr ⟨by rw[HQ.out,if_neg zW.out],rfl⟩) (z8.out.added ze (by simpa using zg) z5) (by have:=z0.out.2.1;omega) (z2.out.1.added z8.out.row z5) (z2.out.2.1.added z8.out.row z5) (z5.own z8.out.row z2.out.2.2.1 (by decide) (by decide)) (z2.out.2.2.2.1.trans z5) (D3 z2.out.2.2.2.2 z5.size) (z5.own z8.out.row zF.out.1 (by decide) (by decide)) zI;clear k0 k1 k2 k3;obtain⟨k0,k1,k2,k3⟩:=DW zI;clear KA zw zF zo z2 z8 zj ze zg z5 zI;go_upto_region 12 with fail
      clear d1 zW
     all_goals
      obtain⟨vz,Nz,bz,zB,zu,zE,zA,zz,zy,zG,z7,zs,zv⟩:=HZ;have zm:=(D6 wz.heap.size wz).drew;have KC:=cloneM_any Am cm ms wz.drew wz.drew.heap.size (Na _) (by have:=zQ.out;omega) (Qh.of_own_s (Qk zs zm));have qb:=DY (DZ zB (DZ zu (DZ zE (DZ zA (DZ zz (DZ zy (DZ zG (DZ z7 zv))))))));have zX:=DY zm;have k1':=Qg zm k1;have k2':=Qg zm k2;have k3':=Qg zm k3;have HW:=DY (show∀(w3:World) (A':Option Addr) (c':Nat),w3.ownsRow wz.drew.heap.size 52 3 (.slice A' ms.length c') ms.length (mv ms)->Below wz.drew.heap.size wz.drew w3->
        ∃xs,(w3.alloc (.cells #[.int .i64 x, .int .i64 a1, .int .i64 a2, .int .i64 a3, .slice A' ms.length c'] 49)).ownsRow w.heap.size 49 5 (.slice u0 ds.length uc) ds.length xs/\w.heap.size<=(w3.alloc (.cells #[.int .i64 x, .int .i64 a1, .int .i64 a2, .int .i64 a3, .slice A' ms.length c'] 49)).heap.size/\
         DvZ (∀(w7:World) (A7:Option Addr) (c7:Nat),w7.ownsRow w.heap.size 49 5 (.slice A7 (ds.length+1) c7) (ds.length+1) (xs++[.int .i64 x, .int .i64 a1, .int .i64 a2, .int .i64 a3, .slice A' ms.length c'])->(w3.alloc (.cells #[.int .i64 x, .int .i64 a1, .int .i64 a2, .int .i64 a3, .slice A' ms.length c'] 49)).grownBy w7 (Value.slice u0 ds.length uc).ownBlock->
          w7.heap[wr.heap.size]?=some (.cells #[.int .i64 a0, .int .i64 a1, .int .i64 a2, .int .i64 a3] 196)/\JH g base m s fuel bd br bm N nd nr nm (Xq Jt D) (Xq YG T) fm R bs data (Zq bs data fuel D T) ids w.heap.size c2 (some ad) w (k+1) (.slice A7 (ds.length+1) c7) w7) from fun w3 A' c' zK zc=>by
       obtain⟨zB,zu,zE,zA,zz,zy,zG,z7,zv⟩:=qb.out;have hb:=Qb (Qb zX.out zc) (Qd w3 (.cells #[.int .i64 x, .int .i64 a1, .int .i64 a2, .int .i64 a3, .slice A' ms.length c'] 49));obtain⟨xs,z9,zq⟩:=(zz.keep hb).row;refine⟨xs,z9,Nat.le_trans z7 hb.size,fun w7 A7 c7 ho7 zr=>⟨?_,?_⟩⟩
       ·have hx:=Qe zv hb;exact(zr.block _ (D0.1 hx).1 (Qi hx (by decide) z9)).trans hx
       ·exact JH.dev (d:=⟨x,a1,a2,a3,ms⟩) zb.out (by rw[<-HX.out];exact zB) (zu.keep hb) zE z0.out.2.2.1 z0.out.2.2.2.1 (zA.keep hb) qa.out z9 zq (QT zy hb) (zG.after hb) (D3 z7 hb.size) z0.out.2.2.2.2.2.2.2.2.2 zQ.out (QO (Qk zK (Qd w3 _)) (D3 z7 zX.out.size)) ho7 zr)
      have hln:ds.length<=36000000:=by have:=z0.out.2.2.1;omega
      clear zB zu zE zA zz zy zG z7 zs zv zm;refine wp_region_held_drew (S:=(fun V=>V.cell? ⟨wr.heap.size,1,none⟩=some (.int .i64 a1)/\V.cell? ⟨wr.heap.size,2,none⟩=some (.int .i64 a2)/\V.cell? ⟨wr.heap.size,3,none⟩=some (.int .i64 a3))) (by kernel_rfl) ?_ (fun hHeld=>?_)
      (focus((try dsimp only);(first|exact⟨k1',k2',k3'⟩|exact⟨Qg zc k1',Qg zc k2',Qg zc k3'⟩|exact⟨Qg (Qd _ _) hHeld.1,Qg (Qd _ _) hHeld.2.1,Qg (Qd _ _) hHeld.2.2⟩|exact⟨Qa zn 1 rfl,Qa zn 2 rfl,Qa zn 3 rfl⟩)))
      refine QD (.f 0 (.f 1 (.f 2 (.f 3 (.f 4 (.f 5 (.f 6 (.f 7 (.f 8 (.o 9 (.f 10 (.o 11 (.r 12 (.f 13 .e)))))))))))))) ?_
      repeat' ((first|(refine QL (v:=?_) (hv:=?_) (h:=?_);rotate_left;(focus(first|(refine .inr ⟨by rfl,?_⟩;rfl)|(refine .inl ⟨by rfl,?_⟩;intro w hSw;(try dsimp only at hSw);(try simp only[List.getElem_toArray,D4,D5]);go_simp;try(with_reducible rfl)))))|(refine Qr (h:=?_))|((first|((refine Qx (h:=fun K hK=>?_))<;>((try simp only[D8,D4,D5]);go_simp))|(refine Q0 (h:=fun K hK=>?_)))<;>((first|(go_at_call 67;refine KC.mono ?_;rintro e w3 ⟨A',c',rfl,zK,zc⟩;obtain⟨xs,z9,q9,q0⟩:=HW.out w3 A' c' zK zc)|(refine Zg (.tmp 63) (.tmp 74) _ rfl w.heap.size 5 49 js _ 56 underlying26 q1 q2 q3 q8 rfl (by decide) _ ds.length xs rfl z9 _ _ 1 1 [.int .i64 x, .int .i64 a1, .int .i64 a2, .int .i64 a3, .slice A' ms.length c'] rfl rfl (Qh.new w3 [.int .i64 x, .int .i64 a1, .int .i64 a2, .int .i64 a3, .slice A' ms.length c'] 49 (0,0)) (by simp[Value.oneCell']) (by simp only[maxLen];omega) (by omega) q9 ?_;intro A7 c7 w7 zf zr;obtain⟨zn,hF⟩:=q0 w7 A7 c7 zf zr;have HF:=DY hF;clear zf zr hF)|skip);refine hK.out _ _ ?_ (fun hHeld=>?_);(focus((try dsimp only);(first|exact⟨k1',k2',k3'⟩|exact⟨Qg zc k1',Qg zc k2',Qg zc k3'⟩|exact⟨Qg (Qd _ _) hHeld.1,Qg (Qd _ _) hHeld.2.1,Qg (Qd _ _) hHeld.2.2⟩|exact⟨Qa zn 1 rfl,Qa zn 2 rfl,Qa zn 3 rfl⟩)));clear hK K)))<;>(try simp only[Act.put,Nc,Nf,Ng]))
      all_goals (refine Qu ?_;refine wpAnyH_done (by kernel_rfl) ?_ _)
      go_wp2;go_roundw
      case rel=>exact⟨k+1,by have:=zb.out;omega,by go_num,HF⟩
      case measure=>have:=zb.out;simp[intOf];omega
  ·obtain rfl:k=ids.length:=by omega
   have HF:=DY (DZ hA (DZ hN' (DZ hl (DZ hf (DZ ho (DZ hb hd))))));clear hA hN' hl hf hm ho hi hb z7 hd;go_wp2;go_ret;obtain⟨h1,h2,h3,h4,h5,h6,h7⟩:=HF.out;rw[Nw] at h1 h4;exact⟨u0,uc,ids,ds,vr,rfl,HP.out.1,HP.out.2,h1.moreN (by omega),by omega,h4,h5,h7,h6⟩
theorem EZ{bs:List UInt8}{s:Nat->Int}{fuel:Int}{ids:List Int}(hr:ids.Pairwise (·<·))(hm:∀x,x∈ids↔x∈Qp (QP bs (s 6) 3 fuel).ents∨x∈Qp (QP bs (s 5) 1 fuel).ents):
  QY bs (s 5) (s 6) (s 3) fuel=if Jw bs s fuel=true then(ids.mapM (Zq bs (s 3) fuel (QP bs (s 6) 3 fuel).ents (QP bs (s 5) 1 fuel).ents)).bind fun l=>if l.length<=4096/\(l.map fun d=>d.maps.length).sum<=16384 then some l else none else none:=by
 have h:=audit_load bs s fuel ids hr hm;unfold auditP at h
 split
 ·rename_i ho
  rw[if_pos ho] at h;cases hq:ids.mapM (Zq bs (s 3) fuel (QP bs (s 6) 3 fuel).ents (QP bs (s 5) 1 fuel).ents) with
  |none=>
   rw[hq] at h;cases hd:QY bs (s 5) (s 6) (s 3) fuel with
   |none=>rfl
   |some l=>rw[hd] at h;cases h
  |some q=>
   rw[hq] at h;simp only[Option.bind_some] at h ⊢
   split at h
   ·rename_i hc
    rw[if_pos hc];cases hd:QY bs (s 5) (s 6) (s 3) fuel with
    |none=>rw[hd] at h;cases h
    |some l=>
     rw[hd] at h;simp only[Option.map_some,Li,Xe.mk.injEq] at h;rw[h.2.2.2.2]
   ·rename_i hc
    rw[if_neg hc];cases hd:QY bs (s 5) (s 6) (s 3) fuel with
    |none=>rfl
    |some l=>rw[hd] at h;cases h
 ·rename_i ho
  rw[if_neg ho] at h;cases hd:QY bs (s 5) (s 6) (s 3) fuel with
  |none=>rfl
  |some l=>rw[hd] at h;cases h
theorem audit_no{bs:List UInt8}{s:Nat->Int}{fuel:Int}(h:Jw bs s fuel=false):QY bs (s 5) (s 6) (s 3) fuel=none:=by
 obtain⟨h1,h2,-⟩:=EE (Qp (QP bs (s 6) 3 fuel).ents++Qp (QP bs (s 5) 1 fuel).ents);rw[EZ h1 (fun x=>by rw[h2,NY]),h,if_neg (by decide)]
theorem audit_flag(bs:List UInt8)(s:Nat->Int)(fuel:Int):Za bs (s 3) fuel (((false||(QP bs (s 6) 3 fuel).bad)||!((QP bs (s 6) 3 fuel).ents.all Z1))||(QP bs (s 5) 1 fuel).bad) (QP bs (s 5) 1 fuel).ents=!(Jw bs s fuel):=by
 unfold Za Jw;cases(QP bs (s 6) 3 fuel).bad<;>cases(QP bs (s 6) 3 fuel).ents.all Z1<;>cases(QP bs (s 5) 1 fuel).bad<;>cases(QP bs (s 5) 1 fuel).ents.all (YT bs (s 3) fuel)<;>rfl
theorem i64_key{l:List Qv}(h:ZW 281474976710656 l):∀x∈Qp l,JC x:=fun x hx=>by
 have:=h.2 x hx;unfold JC;simp[Lit.wf,IntKind.min,IntKind.max,IntKind.bits,IntKind.signed];omega
theorem OL{w:World}{k:Nat}(h:k=w.heap.size)(o:Obj):(w.alloc o).heap[k]?=some o:=by subst h;exact heap_alloc_new w o
def GivesAP(q:Option (List Q4))(s:Nat->Int)(w:World)(e:Ending)(w':World):Prop:=
 Below w.heap.size w w'/\((∃ls A c,q=some ls/\e= .returned (.tuple #[.agg #[.int .i64 (s 0), .int .i64 (s 1), .int .i64 (s 2), .int .i64 (s 3), .slice A ls.length c], .slice none 0 0])/\Qt w' w.heap.size (.slice A ls.length c) ls)∨
  (q=none/\∃(dl:List S3) (A:Option Addr) (c:Nat),dl≠[]/\dl.length<=1000000000000/\e= .returned (.tuple #[.agg #[.int .i64 0, .int .i64 0, .int .i64 0, .int .i64 0, .slice none 0 0], .slice A dl.length c])/\w'.ownsRow w.heap.size 79 3 (.slice A dl.length c) dl.length (tv dl)))
theorem Km:∀(ds:List Q4),(∀d∈ds,d.maps.length<=18000000)->(ds.map fun d=>d.maps.length).sum<=18000000*ds.length
 |[],_=>by simp
 |d::r,h=>by
  have h1:=h d (by simp);have h2:=Km r (fun x hx=>h x (NA _ hx));simp only[Lg,Lu,No];omega
structure ApS(wx:World)(b1 gA bp:Nat)(s:Nat->Int)(w2:World)(q:Option (List Q4))(fin:Bool)(dl:List S3)(u:Option Addr)(uc:Nat)(A:Option Addr)(c:Nat)(ds:List Q4):Prop where
 row:∃cs,wx.heap[gA]?=some (.cells cs 349)/\cs[0]?=some (.slice u dl.length uc)
 own:wx.ownsRow b1 79 3 (.slice u dl.length uc) dl.length (tv dl)
 p:wx.heap[bp]?=some (.cells #[.int .i64 (s 0), .int .i64 (s 1), .int .i64 (s 2), .int .i64 (s 3), .slice A ds.length c] 28)
 dev:Qt wx b1 (.slice A ds.length c) ds
 bel:Below b1 w2 wx
 bs:b1<=wx.heap.size
 bad:dl≠[]->q=none
 ok:dl=[]->q=if fin=true∨(ds.length<=4096/\(ds.map fun d=>d.maps.length).sum<=16384) then some ds else none
 dn:dl.length<=1000000000000
 n:ds.length<=36000000
 ml:∀d∈ds,d.maps.length<=18000000
end Go.Proofs.YtijcgllddnpmhaaGreatDoor
