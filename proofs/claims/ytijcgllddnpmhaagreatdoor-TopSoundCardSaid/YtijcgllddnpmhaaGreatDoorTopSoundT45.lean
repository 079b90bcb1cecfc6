/- TopSound: lemmas, part 45. -/
import Derived.Test.YtijcgllddnpmhaaGreatDoorTopSoundT44
set_option maxRecDepth 100000
set_option maxHeartbeats 16000000
set_option linter.all false
namespace Go.Proofs.YtijcgllddnpmhaaGreatDoor
open Go.RowKit Go.Proofs.Tryz
theorem Ug{d:Nat}{q:Option (List Int)}{w w':World}{e:Ending}(h:Zd d 3 1 (q.map iv) w e w'):Below w.heap.size w w'/\∃A n c v,e= .returned (.tuple #[.slice A n c,v])/\((∃l:List Int,q=some l/\v= .nilIface/\n=l.length/\Qh w' w'.heap.size A (iv l))∨(q=none/\∃t x,v= .iface t x)):=by
 obtain⟨h|⟨h1,v,h2,h3⟩,hb⟩:=h
 ·obtain⟨xs,A,n,c,h1,h2,h3,h4,h5⟩:=h;cases q with
  |none=>cases h1
  |some l=>
   cases h1;rw[QK] at h3;exact⟨hb,A,n,c,_,h2, .inl ⟨l,rfl,rfl,by omega,Qh.of_own h5⟩⟩
 ·cases q with
  |some l=>cases h1
  |none=>exact⟨hb,_,_,_,v,h2, .inr ⟨rfl,h3.form⟩⟩
def GivesMn(bs:List UInt8)(w:World)(e:Ending)(w':World):Prop:=
 Below w.heap.size w w'/\∃(p:Xe) (A:Option Addr) (c:Nat) (ok:Bool),e= .returned (.tuple #[Yc p A c, .bool ok])/\((ok=true/\(∃s,Zc bs=some (p,s))/\Qt w' w.heap.size (.slice A p.devs.length c) p.devs)∨(ok=false/\Zc bs=none))
theorem checkP_load{bs:List UInt8}(h:Vf bs 1000000=none):Zc bs=none:=by
 unfold Zc;rw[h]
 rfl
theorem UB{bs:List UInt8}{p:Xe}{s:Nat->Int}(h:Vf bs 1000000=some (p,s)):Zc bs=(Xu bs (s 7) (s 8) (s 3) 1000000).bind fun l=>(X3 bs (s 9) (s 10) (s 4) 1000000).bind fun q=>(XJ bs s).bind fun c=>
  if(Zl l (Yk p)).length=0/\(Zl q c).length=0 then some (p,s) else none:=by
 unfold Zc;rw[h]
 rfl
theorem load_bnd{bs:List UInt8}{p:Xe}{s:Nat->Int}(h:Vf bs 1000000=some (p,s)):okS s 11=true/\p.devs.length<=4096/\ZL p<=16384/\∀d∈p.devs,d.maps.length<=16384:=by
 obtain⟨h1,h2,-⟩:=Dp h;have h3:=h2;unfold Xx at h3;simp only[Nu,decide_eq_true_iff] at h3;obtain⟨-,-,-,-,h4,h5,-⟩:=h3;refine⟨(VZ h1).1,h4,h5,fun d hd=>?_⟩
 have h6:d.maps.length∈p.devs.map fun d=>d.maps.length:=Lc hd
 exact D3 (J6 h6) h5
theorem means_any{w:World}{base m:Nat}{bs:List UInt8}(hi:ZH w base m bs)(hbs:base<=w.heap.size):
  Calls prog 8 #[.pointer (some ⟨m,0,none⟩)] w (GivesMn bs w):=by
 obtain⟨w1,qj,zO,q8⟩:=DS w (.cells Zh 28);have KL:=lpool_any (hi.below (zO.mono hbs)) (D3 hbs zO.size) 1000000 (by decide);have HI:=DY (fun(W:World) (hW:Below w.heap.size w W)=>DZ (hi.below (hW.mono hbs)) (D3 hbs hW.size));have zH:=DY zO;have qg:=DY q8;have zn:∀v∈Zh.toList,v.oneCell'=true:=by simp[Zh,Value.oneCell']
 have zo:(prog.info? 28).map (·.size)=some Zh.size:=Y4 _ _ _ _ _;have zA:∀v∈Zb.toList,v.oneCell'=true:=ZP fun _=>0
 have zR:(prog.info? 65).map (·.size)=some Zb.size:=ZJ fun _=>0
 clear hi hbs zO q8;go_enter func8,ntmps8
 go_upto_region 1 with fail
 rw[show w.alloc (.cells #[.int .i64 0, .int .i64 0, .int .i64 0, .int .i64 0, .slice none 0 0] 28)=w1 from qj.symm]
 clear qj;go_wp2_with fail
 refine KL.mono ?_;rintro e w2 ⟨zq,⟨p,s,A,c,hq,rfl,qa⟩|⟨hq,v,rfl,hv⟩⟩;rotate_left
 ·obtain⟨vt,vx,rfl⟩:=hv.form;have hA:=Qj (heap_alloc_new w2 (.cells Zh 28)) (.cells Zb 65);have zC:=ZB (w:=w2.alloc (.cells Zh 28)) (k:=w2.heap.size+1) (by simp) (.cells Zb 65);have zN:=DY (Qb zH zq);have zI:=DY (Qe qg zq);have zj:=DY (checkP_load hq);clear KL hq hv zq;go_upto_region 2 with(first|(refine Ql rfl 28 _ _ rfl w2.heap.size Zh rfl rfl Zh 28 hA rfl zo zn ?_;intro w3 h3 zp zv;have zz:=Vc zC zp (by omega))|(refine Ql rfl 65 _ _ rfl (w2.heap.size+1) Zb rfl rfl Zb 65 zz rfl zR zA ?_;intro w4 h4 zt zZ))
  have zm:Below w2.heap.size w2 w4:=((QG w2 _ _).grown zp (QG w2 _ _).size (fun k hk=>by cases hk;exact Na _)).grown zt (by rw[zv];exact(QG w2 _ _).size) (fun k hk=>by cases hk;omega);have zl:=DY (Qb zN zm);have qt:=Qe zI zm;clear zm zp zv zt zZ hA zC zz h3 h4;go_wp2_with (refine Ql rfl 28 _ _ rfl w.heap.size Zh rfl rfl Zh 28 qt rfl zo zn ?_;intro w9 h9 z5 zE)
  refine bodyPost_ret (v:= .tuple #[.agg Zh, .bool false]) (Qw (p:=2) (u:=3) rfl _ _ w.heap.size 28 Zh _ _ rfl h9 underlying28 rfl zo) rfl ?_;exact⟨zl.out.grown z5 zl.out.size (fun k hk=>by cases hk;exact Na _),⟨0,0,0,0,[]⟩,none,0,false,rfl, .inr ⟨rfl,zj.out⟩⟩
 ·have z0:=Y4 (.int .i64 p.tx) (.int .i64 p.time) (.int .i64 p.unit_) (.int .i64 p.data) (.slice A p.devs.length c);have z3:∀v∈(#[.int .i64 p.tx, .int .i64 p.time, .int .i64 p.unit_, .int .i64 p.data, .slice A p.devs.length c]:Array Value).toList,v.oneCell'=true:=by simp[Value.oneCell']
  have qb:=ZJ s;have zS:=ZP s;have hA:=Qj (heap_alloc_new w2 (.cells Zh 28)) (.cells Zb 65);have zC:=ZB (w:=w2.alloc (.cells Zh 28)) (k:=w2.heap.size+1) (by simp) (.cells Zb 65);have zN:=DY (Qb zH zq);have zI:=DY (Qe qg zq);have HL:=DY hq;have qs:=DY qa;have qm:Hid (Zb.size=(QQ s).size):=rfl;clear KL hq qa zq;unfold Yc;go_upto_region 2 with(first|(refine Ql rfl 28 _ _ rfl w2.heap.size #[.int .i64 p.tx, .int .i64 p.time, .int .i64 p.unit_, .int .i64 p.data, .slice A p.devs.length c] rfl rfl Zh 28 hA rfl z0 z3 ?_;intro w3 h3 zp zv;have zz:=Vc zC zp (by omega))|(refine Ql rfl 65 _ _ rfl (w2.heap.size+1) (QQ s) rfl rfl Zb 65 zz qm.out qb zS ?_;intro w4 h4 zt zZ))
  have zm:Below w2.heap.size w2 w4:=((QG w2 _ _).grown zp (QG w2 _ _).size (fun k hk=>by cases hk;exact Na _)).grown zt (by rw[zv];exact(QG w2 _ _).size) (fun k hk=>by cases hk;omega);have q9:=Vc h3 zt (by omega);have zk:=DY (Qb zN zm);have zY:=DY (Qe zI zm);have qf:=DY q9;have qc:=DY h4;have q2:=DY (qs.out.keep zm);have zM:=DY (load_bnd HL);have zs:=DY (VA zM.out.1);have KD:=UX (HI.out _ zk.out).1 (HI.out _ zk.out).2 (s 7) (s 8) (s 3) 1000000 (by decide) (by have:=zs.out;omega) (by have:=zs.out;omega);have s7:=Qa h4 7 rfl;have s8:=Qa h4 8 rfl;have s3:=Qa h4 3 rfl;clear zm zp zv zt zZ hA zC zz h3 h4 q9;go_wp2_with fail
  refine KD.mono ?_;rintro e w5 h5;obtain⟨zG,A5,n5,c5,v5,rfl,q3⟩:=Ug h5;have qu:=DY q3;have zy:=DY zG;have zW:=DY (Qb zk zG);have h4:=Qe qc zG;have t9:=Qa h4 9 rfl;have qn:=Qa h4 10 rfl;have t4:=Qa h4 4 rfl;have KM:=UW (HI.out _ zW.out).1 (HI.out _ zW.out).2 (s 9) (s 10) (s 4) 1000000 (by decide) (by have:=zs.out;omega) (by have:=zs.out;omega);clear KD h5 q3 zG h4 s7 s8 s3;go_wp2_with fail
  refine KM.mono ?_;rintro e w6 h6;obtain⟨zL,A6,n6,c6,v6,rfl,qd⟩:=Ug h6;have qp:=DY qd;have zT:=DY zL;have q1:=DY (Qb zy zL);have qk:=DY (Qb zW zL);have h4:=Qe qc q1;have KC:=RU (HI.out _ qk).1 (HI.out _ qk).2 s;clear KM h6 qd zL t9 qn t4;go_upto_region 7 with(first|(refine wpList_load_row rfl 65 _ rfl (w2.heap.size+1) rfl 65 _ _ _ h4 underlying65 rfl qb ?_)|(go_at_call 29;refine KC.mono ?_;rintro e w7 h7;obtain⟨qh,A7,n7,c7,v7,rfl,qe⟩:=Ug h7;have qr:=DY qe;have zx:=DY qh;clear h7 qe qh))
  clear KC h4;have zu:=DY (Qb zT zx);have ze:=DY (Qb zy zu);have zl:=DY (Qb zk ze);have zr:Hid (∀V,Below w7.heap.size w7 V->V.heap[w.heap.size]?=some (.cells Zh 28)):=DY fun V hV=>Qe (Qe zY ze) hV
  have zb:Hid (∀V,Below w7.heap.size w7 V->V.cell? ⟨w2.heap.size,0,none⟩=some (.int .i64 p.tx)/\V.cell? ⟨w2.heap.size,1,none⟩=some (.int .i64 p.time)/\V.cell? ⟨w2.heap.size,2,none⟩=some (.int .i64 p.unit_)/\V.cell? ⟨w2.heap.size,3,none⟩=some (.int .i64 p.data)/\V.cell? ⟨w2.heap.size,4,none⟩=some (.slice A p.devs.length c)):=DY fun V hV=>have h:=Qe (Qe qf ze) hV;⟨Qa h 0 rfl,Qa h 1 rfl,Qa h 2 rfl,Qa h 3 rfl,Qa h 4 rfl⟩
  have zD:Hid (∀V,Below w7.heap.size w7 V->∀W,V.grownBy W (some w.heap.size)->W.cell? ⟨w2.heap.size,0,none⟩=some (.int .i64 p.tx)/\W.cell? ⟨w2.heap.size,1,none⟩=some (.int .i64 p.time)/\W.cell? ⟨w2.heap.size,2,none⟩=some (.int .i64 p.unit_)/\W.cell? ⟨w2.heap.size,3,none⟩=some (.int .i64 p.data)/\W.cell? ⟨w2.heap.size,4,none⟩=some (.slice A p.devs.length c)):=DY fun V hV W hW=>have h:=Vc (Qe (Qe qf ze) hV) hW (by have:=zH.out.size;have:=zN.out.size;have:=zI.out;have:=(D0.1 this).1;omega);⟨Qa h 0 rfl,Qa h 1 rfl,Qa h 2 rfl,Qa h 3 rfl,Qa h 4 rfl⟩
  have z4:=DY (Below.refl w7.heap.size w7).drew;have z1:=DY (zb.out _ z4);have qi:Hid (∀V,Below w7.heap.size w7 V->Qt V w1.heap.size (.slice A p.devs.length c) p.devs):=DY fun V hV=>(q2.out.keep ze).keep hV
  have KR:Hid (∀V,Below w7.heap.size w7 V->Calls prog 31 #[.agg #[.int .i64 p.tx, .int .i64 p.time, .int .i64 p.unit_, .int .i64 p.data, .slice A p.devs.length c]] V (XQ 3 (iv (Yk p)) V)):=Lib.hid fun V hV=>O7 p A c V (by have:=zM.out.2.1;omega) (by have:=zM.out.2.2.1;omega) (fun d hd=>by have:=zM.out.2.2.2 d hd;omega) (qi.out V hV).devs
  rcases qu.out with⟨l5,q5,rfl,rfl,r5⟩|⟨q5,t5,x5,rfl⟩
  rotate_left
  ·have zj:Hid (Zc bs=none):=DY (by rw[UB HL,q5];rfl);clear q5;refine wp_region_held_drew (S:=(fun V=>V.cell? ⟨w2.heap.size,0,none⟩=some (.int .i64 p.tx)/\V.cell? ⟨w2.heap.size,1,none⟩=some (.int .i64 p.time)/\V.cell? ⟨w2.heap.size,2,none⟩=some (.int .i64 p.unit_)/\V.cell? ⟨w2.heap.size,3,none⟩=some (.int .i64 p.data)/\V.cell? ⟨w2.heap.size,4,none⟩=some (.slice A p.devs.length c))) (by kernel_rfl) ?_ (fun hHeld=>?_)
   (focus((try dsimp only);(first|with_reducible exact z1.out|with_reducible exact z9.out)))
   refine QD (.f 0 (.f 1 (.f 2 (.f 3 (.f 4 (.f 5 (.f 6 (.f 7 (.f 8 (.f 9 (.f 10 (.f 11 (.f 12 (.f 13 (.f 14 (.f 15 (.f 16 (.f 17 (.f 18 (.f 19 (.f 20 (.f 21 (.f 22 (.f 23 (.f 24 (.f 25 (.r 26 (.f 27 .e)))))))))))))))))))))))))))) ?_
   repeat' ((first|(refine QL (v:=?_) (hv:=?_) (h:=?_);rotate_left;(focus(first|(refine .inr ⟨by rfl,?_⟩;rfl)|(refine .inl ⟨by rfl,?_⟩;intro w hSw;(try dsimp only at hSw);(try simp only[D8,D4,D5]);go_simp;try(with_reducible rfl)))))|((refine Q0 (h:=fun K hK=>?_))<;>((first|(refine Q2 28 _ _ rfl w.heap.size #[.int .i64 p.tx, .int .i64 p.time, .int .i64 p.unit_, .int .i64 p.data, .slice A p.devs.length c] rfl rfl Zh 28 (zr.out _ z4.out) rfl z0 z3 ?_;intro w9 h9 z5 zE;have za:=DY (Qb zl.out z4.out);have zJ:=DY (zb.out _ z4.out);have z9:=DY (zD.out _ z4.out _ z5))|skip);refine hK.out _ _ ?_ (fun hHeld=>?_);(focus((try dsimp only);(first|with_reducible exact z1.out|with_reducible exact z9.out)));clear hK K)))<;>(try simp only[Act.put,Nc,Nf,Ng]))
   all_goals (refine Qu ?_;refine wpAnyH_done (by kernel_rfl) ?_ _)
   go_wp2;refine bodyPost_ret (v:= .tuple #[.agg #[.int .i64 p.tx, .int .i64 p.time, .int .i64 p.unit_, .int .i64 p.data, .slice A p.devs.length c], .bool false]) (Qw (p:=2) (u:=3) rfl _ _ w.heap.size 28 #[.int .i64 p.tx, .int .i64 p.time, .int .i64 p.unit_, .int .i64 p.data, .slice A p.devs.length c] _ _ rfl h9 underlying28 rfl z0) rfl ?_;have zi:=za.out.grown z5 za.out.size (fun k hk=>by cases hk;exact Na _);exact⟨zi,p,A,c,false,rfl, .inr ⟨rfl,zj.out⟩⟩
  rcases qp.out with⟨l6,q6,rfl,rfl,r6⟩|⟨q6,t6,x6,rfl⟩
  rotate_left
  ·have zj:Hid (Zc bs=none):=DY (by rw[UB HL,q5,q6];rfl);clear q5 q6 r5;refine wp_region_held_drew (S:=(fun V=>V.cell? ⟨w2.heap.size,0,none⟩=some (.int .i64 p.tx)/\V.cell? ⟨w2.heap.size,1,none⟩=some (.int .i64 p.time)/\V.cell? ⟨w2.heap.size,2,none⟩=some (.int .i64 p.unit_)/\V.cell? ⟨w2.heap.size,3,none⟩=some (.int .i64 p.data)/\V.cell? ⟨w2.heap.size,4,none⟩=some (.slice A p.devs.length c))) (by kernel_rfl) ?_ (fun hHeld=>?_)
   (focus((try dsimp only);(first|with_reducible exact z1.out|with_reducible exact z9.out)))
   refine QD (.f 0 (.f 1 (.f 2 (.f 3 (.f 4 (.f 5 (.f 6 (.f 7 (.f 8 (.f 9 (.f 10 (.f 11 (.f 12 (.f 13 (.f 14 (.f 15 (.f 16 (.f 17 (.f 18 (.f 19 (.f 20 (.f 21 (.f 22 (.f 23 (.f 24 (.f 25 (.r 26 (.f 27 .e)))))))))))))))))))))))))))) ?_
   repeat' ((first|(refine QL (v:=?_) (hv:=?_) (h:=?_);rotate_left;(focus(first|(refine .inr ⟨by rfl,?_⟩;rfl)|(refine .inl ⟨by rfl,?_⟩;intro w hSw;(try dsimp only at hSw);(try simp only[D8,D4,D5]);go_simp;try(with_reducible rfl)))))|((refine Q0 (h:=fun K hK=>?_))<;>((first|(refine Q2 28 _ _ rfl w.heap.size #[.int .i64 p.tx, .int .i64 p.time, .int .i64 p.unit_, .int .i64 p.data, .slice A p.devs.length c] rfl rfl Zh 28 (zr.out _ z4.out) rfl z0 z3 ?_;intro w9 h9 z5 zE;have za:=DY (Qb zl.out z4.out);have zJ:=DY (zb.out _ z4.out);have z9:=DY (zD.out _ z4.out _ z5))|skip);refine hK.out _ _ ?_ (fun hHeld=>?_);(focus((try dsimp only);(first|with_reducible exact z1.out|with_reducible exact z9.out)));clear hK K)))<;>(try simp only[Act.put,Nc,Nf,Ng]))
   all_goals (refine Qu ?_;refine wpAnyH_done (by kernel_rfl) ?_ _)
   go_wp2;refine bodyPost_ret (v:= .tuple #[.agg #[.int .i64 p.tx, .int .i64 p.time, .int .i64 p.unit_, .int .i64 p.data, .slice A p.devs.length c], .bool false]) (Qw (p:=2) (u:=3) rfl _ _ w.heap.size 28 #[.int .i64 p.tx, .int .i64 p.time, .int .i64 p.unit_, .int .i64 p.data, .slice A p.devs.length c] _ _ rfl h9 underlying28 rfl z0) rfl ?_;have zi:=za.out.grown z5 za.out.size (fun k hk=>by cases hk;exact Na _);exact⟨zi,p,A,c,false,rfl, .inr ⟨rfl,zj.out⟩⟩
  rcases qr.out with⟨l7,q7,rfl,rfl,r7⟩|⟨q7,t7,x7,rfl⟩
  rotate_left
  ·have zj:Hid (Zc bs=none):=DY (by rw[UB HL,q5,q6,q7];rfl);clear q5 q6 q7 r5 r6;refine wp_region_held_drew (S:=(fun V=>V.cell? ⟨w2.heap.size,0,none⟩=some (.int .i64 p.tx)/\V.cell? ⟨w2.heap.size,1,none⟩=some (.int .i64 p.time)/\V.cell? ⟨w2.heap.size,2,none⟩=some (.int .i64 p.unit_)/\V.cell? ⟨w2.heap.size,3,none⟩=some (.int .i64 p.data)/\V.cell? ⟨w2.heap.size,4,none⟩=some (.slice A p.devs.length c))) (by kernel_rfl) ?_ (fun hHeld=>?_)
   (focus((try dsimp only);(first|with_reducible exact z1.out|with_reducible exact z9.out)))
   refine QD (.f 0 (.f 1 (.f 2 (.f 3 (.f 4 (.f 5 (.f 6 (.f 7 (.f 8 (.f 9 (.f 10 (.f 11 (.f 12 (.f 13 (.f 14 (.f 15 (.f 16 (.f 17 (.f 18 (.f 19 (.f 20 (.f 21 (.f 22 (.f 23 (.f 24 (.f 25 (.r 26 (.f 27 .e)))))))))))))))))))))))))))) ?_
   repeat' ((first|(refine QL (v:=?_) (hv:=?_) (h:=?_);rotate_left;(focus(first|(refine .inr ⟨by rfl,?_⟩;rfl)|(refine .inl ⟨by rfl,?_⟩;intro w hSw;(try dsimp only at hSw);(try simp only[D8,D4,D5]);go_simp;try(with_reducible rfl)))))|((refine Q0 (h:=fun K hK=>?_))<;>((first|(refine Q2 28 _ _ rfl w.heap.size #[.int .i64 p.tx, .int .i64 p.time, .int .i64 p.unit_, .int .i64 p.data, .slice A p.devs.length c] rfl rfl Zh 28 (zr.out _ z4.out) rfl z0 z3 ?_;intro w9 h9 z5 zE;have za:=DY (Qb zl.out z4.out);have zJ:=DY (zb.out _ z4.out);have z9:=DY (zD.out _ z4.out _ z5))|skip);refine hK.out _ _ ?_ (fun hHeld=>?_);(focus((try dsimp only);(first|with_reducible exact z1.out|with_reducible exact z9.out)));clear hK K)))<;>(try simp only[Act.put,Nc,Nf,Ng]))
   all_goals (refine Qu ?_;refine wpAnyH_done (by kernel_rfl) ?_ _)
   go_wp2;refine bodyPost_ret (v:= .tuple #[.agg #[.int .i64 p.tx, .int .i64 p.time, .int .i64 p.unit_, .int .i64 p.data, .slice A p.devs.length c], .bool false]) (Qw (p:=2) (u:=3) rfl _ _ w.heap.size 28 #[.int .i64 p.tx, .int .i64 p.time, .int .i64 p.unit_, .int .i64 p.data, .slice A p.devs.length c] _ _ rfl h9 underlying28 rfl z0) rfl ?_;have zi:=za.out.grown z5 za.out.size (fun k hk=>by cases hk;exact Na _);exact⟨zi,p,A,c,false,rfl, .inr ⟨rfl,zj.out⟩⟩
  have e5:=EQ q5;have e6:=Ew q6;have e7:=RT q7;have ql:=Em p;have zQ:Hid (Zc bs=if(Zl l5 (Yk p)).length=0/\(Zl l6 l7).length=0 then some (p,s) else none):=DY (by rw[UB HL,q5,q6,q7];rfl);generalize Yk p=pl at*;have KF:Hid (∀V,Below w7.heap.size w7 V->∀(A2:Option Addr) (c2:Nat),Qh V V.heap.size A2 (iv pl)->Calls prog 30 #[.slice A5 l5.length c5, .slice A2 pl.length c2] V (XQ 3 (iv (Zl l5 pl)) V)):=DY fun V hV A2 c2 h2=>Ob A5 c5 l5 A2 c2 pl V (by have:=zs.out;omega) (by omega) ((r5.ext zu).ext hV) h2
  have KG:Hid (∀V,Below w7.heap.size w7 V->Calls prog 30 #[.slice A6 l6.length c6, .slice A7 l7.length c7] V (XQ 3 (iv (Zl l6 l7)) V)):=DY fun V hV=>Ob A6 c6 l6 A7 c7 l7 V (by have:=zs.out;omega) (by omega) ((r6.ext zx).ext hV) (r7.ext hV)
  clear q5 q6 q7 r5 r6 r7 e5 e6 e7 ql;generalize Zl l5 pl=d1 at*;generalize Zl l6 l7=d2 at*;obtain⟨n1,zK⟩:∃n1,d1.length=n1:=⟨_,rfl⟩;have zP:=DY zK;by_cases hz:n1=0
  ·subst hz;clear zK;refine wp_region_held_drew (S:=(fun V=>V.cell? ⟨w2.heap.size,0,none⟩=some (.int .i64 p.tx)/\V.cell? ⟨w2.heap.size,1,none⟩=some (.int .i64 p.time)/\V.cell? ⟨w2.heap.size,2,none⟩=some (.int .i64 p.unit_)/\V.cell? ⟨w2.heap.size,3,none⟩=some (.int .i64 p.data)/\V.cell? ⟨w2.heap.size,4,none⟩=some (.slice A p.devs.length c))) (by kernel_rfl) ?_ (fun hHeld=>?_)
   (focus((try dsimp only);(first|with_reducible exact z1.out|with_reducible exact zh.out|with_reducible exact zf.out|with_reducible exact zB.out|with_reducible exact z9.out)))
   refine QD (.f 0 (.f 1 (.f 2 (.f 3 (.f 4 (.f 5 (.f 6 (.f 7 (.f 8 (.f 9 (.f 10 (.f 11 (.f 12 (.f 13 (.o 14 (.o 15 (.f 16 (.f 17 (.f 18 (.f 19 (.f 20 (.f 21 (.o 22 (.f 23 (.f 24 (.f 25 (.r 26 (.f 27 .e)))))))))))))))))))))))))))) ?_
   repeat' ((first|(refine QL (v:=?_) (hv:=?_) (h:=?_);rotate_left;(focus(first|(refine .inr ⟨by rfl,?_⟩;rfl)|(refine .inl ⟨by rfl,?_⟩;intro w hSw;(try dsimp only at hSw);(try simp only[D8,D4,D5]);go_simp;try(with_reducible rfl)))))|(refine Qr (h:=?_))|((first|((refine Qx (h:=fun K hK=>?_))<;>((try simp only[D8,D4,D5]);go_simp))|(refine Q0 (h:=fun K hK=>?_)))<;>((first|(go_at_call 31;refine(KR.out _ z4.out).mono ?_;rintro e zV ⟨q0,zX,rfl,z6,zd⟩;rw[QK] at z6 ⊢;have z8:=DY (Qb z4.out zd);have K1:=KF.out zV z8.out q0 zX (Qh.of_own z6);have zh:=DY (zb.out _ z8.out);clear z6 zd)|(go_at_call 30;refine K1.mono ?_;rintro e zU ⟨qo,qq,rfl,zc,zg⟩;rw[QK] at zc ⊢;rw[zP.out];have z2:=DY (Qb z8.out zg);have K2:=KG.out zU z2.out;have zf:=DY (zb.out _ z2.out);clear zc zg K1)|(go_at_call 30;refine K2.mono ?_;rintro e w12 ⟨A12,c12,rfl,zF,zw⟩;rw[QK] at zF ⊢;have z7:=DY (Qb z2.out zw);have zB:=DY (zb.out _ z7.out);clear zF zw K2)|(refine Q2 28 _ _ rfl w.heap.size #[.int .i64 p.tx, .int .i64 p.time, .int .i64 p.unit_, .int .i64 p.data, .slice A p.devs.length c] rfl rfl Zh 28 (zr.out _ z7.out) rfl z0 z3 ?_;intro w9 h9 z5 zE;have za:=DY (Qb zl.out z7.out);have zJ:=DY (zb.out _ z7.out);have z9:=DY (zD.out _ z7.out _ z5))|skip);refine hK.out _ _ ?_ (fun hHeld=>?_);(focus((try dsimp only);(first|with_reducible exact z1.out|with_reducible exact zh.out|with_reducible exact zf.out|with_reducible exact zB.out|with_reducible exact z9.out)));clear hK K)))<;>(try simp only[Act.put,Nc,Nf,List.set_cons_succ]))
   all_goals (refine Qu ?_;refine wpAnyH_done (by kernel_rfl) ?_ _)
   go_wp2;refine bodyPost_ret (v:= .tuple #[.agg #[.int .i64 p.tx, .int .i64 p.time, .int .i64 p.unit_, .int .i64 p.data, .slice A p.devs.length c], .bool ((d2.length:Int)==0)]) (Qw (p:=2) (u:=3) rfl _ _ w.heap.size 28 #[.int .i64 p.tx, .int .i64 p.time, .int .i64 p.unit_, .int .i64 p.data, .slice A p.devs.length c] _ _ rfl h9 underlying28 rfl z0) rfl ?_;have zi:=za.out.grown z5 za.out.size (fun k hk=>by cases hk;exact Na _);have q4:=DY zi;by_cases hz2:d2.length=0
   ·refine⟨q4.out,p,A,c,true,by rw[hz2];rfl, .inl ⟨rfl,⟨s,by rw[zQ.out,if_pos ⟨zP.out,hz2⟩]⟩,?_⟩⟩
    exact((qi.out _ z7.out).kept z5 (fun e he u' s n xs ho=> .inr (Qi (zr.out _ z7.out) (by rcases he with rfl|rfl<;>decide) ho).symm)).mono zH.out.size
   ·exact⟨q4.out,p,A,c,false,by rw[show((d2.length:Int)==0)=false from by rw[beq_eq_false_iff_ne];omega];rfl, .inr ⟨rfl,by rw[zQ.out,if_neg (fun h=>hz2 h.2)]⟩⟩
  ·have hz1:((n1:Int)==0)=false:=by rw[beq_eq_false_iff_ne];omega
   have zj:Hid (Zc bs=none):=DY (by rw[zQ.out,if_neg];rintro⟨h1,-⟩;exact hz (zK.symm.trans h1));clear zK hz;refine wp_region_held_drew (S:=(fun V=>V.cell? ⟨w2.heap.size,0,none⟩=some (.int .i64 p.tx)/\V.cell? ⟨w2.heap.size,1,none⟩=some (.int .i64 p.time)/\V.cell? ⟨w2.heap.size,2,none⟩=some (.int .i64 p.unit_)/\V.cell? ⟨w2.heap.size,3,none⟩=some (.int .i64 p.data)/\V.cell? ⟨w2.heap.size,4,none⟩=some (.slice A p.devs.length c))) (by kernel_rfl) ?_ (fun hHeld=>?_)
   (focus((try dsimp only);(first|with_reducible exact z1.out|with_reducible exact zh.out|with_reducible exact zf.out|with_reducible exact z9.out)))
   refine QD (.f 0 (.f 1 (.f 2 (.f 3 (.f 4 (.f 5 (.f 6 (.f 7 (.f 8 (.f 9 (.f 10 (.f 11 (.f 12 (.f 13 (.o 14 (.o 15 (.f 16 (.f 17 (.f 18 (.f 19 (.f 20 (.f 21 (.f 22 (.f 23 (.f 24 (.f 25 (.r 26 (.f 27 .e)))))))))))))))))))))))))))) ?_
   repeat' ((first|(refine QL (v:=?_) (hv:=?_) (h:=?_);rotate_left;(focus(first|(refine .inr ⟨by rfl,?_⟩;rfl)|(refine .inl ⟨by rfl,?_⟩;intro w hSw;(try dsimp only at hSw);(try simp only[D8,D4,D5]);go_simp;try(with_reducible rfl)))))|(refine Qr (h:=?_))|((first|((refine Qx (h:=fun K hK=>?_))<;>((try simp only[D8,D4,D5]);go_simp))|(refine Q0 (h:=fun K hK=>?_)))<;>((first|(go_at_call 31;refine(KR.out _ z4.out).mono ?_;rintro e zV ⟨q0,zX,rfl,z6,zd⟩;rw[QK] at z6 ⊢;have z8:=DY (Qb z4.out zd);have K1:=KF.out zV z8.out q0 zX (Qh.of_own z6);have zh:=DY (zb.out _ z8.out);clear z6 zd)|(go_at_call 30;refine K1.mono ?_;rintro e zU ⟨qo,qq,rfl,zc,zg⟩;rw[QK] at zc ⊢;rw[zP.out];have z2:=DY (Qb z8.out zg);have K2:=KG.out zU z2.out;have zf:=DY (zb.out _ z2.out);clear zc zg K1)|(refine Q2 28 _ _ rfl w.heap.size #[.int .i64 p.tx, .int .i64 p.time, .int .i64 p.unit_, .int .i64 p.data, .slice A p.devs.length c] rfl rfl Zh 28 (zr.out _ z2.out) rfl z0 z3 ?_;intro w9 h9 z5 zE;have za:=DY (Qb zl.out z2.out);have zJ:=DY (zb.out _ z2.out);have z9:=DY (zD.out _ z2.out _ z5))|skip);refine hK.out _ _ ?_ (fun hHeld=>?_);(focus((try dsimp only);(first|with_reducible exact z1.out|with_reducible exact zh.out|with_reducible exact zf.out|with_reducible exact z9.out)));clear hK K)))<;>(try simp only[Act.put,Nc,Nf,Ng]))
   all_goals (refine Qu ?_;refine wpAnyH_done (by kernel_rfl) ?_ _)
   go_wp2;refine bodyPost_ret (v:= .tuple #[.agg #[.int .i64 p.tx, .int .i64 p.time, .int .i64 p.unit_, .int .i64 p.data, .slice A p.devs.length c], .bool false]) (Qw (p:=2) (u:=3) rfl _ _ w.heap.size 28 #[.int .i64 p.tx, .int .i64 p.time, .int .i64 p.unit_, .int .i64 p.data, .slice A p.devs.length c] _ _ rfl h9 underlying28 rfl z0) rfl ?_;have zi:=za.out.grown z5 za.out.size (fun k hk=>by cases hk;exact Na _);exact⟨zi,p,A,c,false,rfl, .inr ⟨rfl,zj.out⟩⟩
theorem GU{bs:List UInt8}{x:Xe×(Nat->Int)}(h:Zc bs=some x):Vf bs 1000000=some x:=by
 unfold Zc at h;cases hl:Vf bs 1000000 with
 |none=>rw[hl] at h;cases h
 |some y=>
  rw[hl,Option.bind_some] at h;cases h1:Xu bs (y.2 7) (y.2 8) (y.2 3) 1000000 with
  |none=>rw[h1] at h;cases h
  |some a=>
   rw[h1,Option.bind_some] at h;cases h2:X3 bs (y.2 9) (y.2 10) (y.2 4) 1000000 with
   |none=>rw[h2] at h;cases h
   |some b=>
    rw[h2,Option.bind_some] at h;cases h3:XJ bs y.2 with
    |none=>rw[h3] at h;cases h
    |some c=>
     rw[h3,Option.bind_some] at h
     split at h
     ·exact h
     ·cases h
theorem E4(A:Option Addr)(c:Nat)(l:List UInt8)(w:World)(hq:l.length<=c)(hm:l.length<=reachBytes)(h:Qh w w.heap.size A (bv l))(hT:XC w)
  (hB:∀W,XC W->Calls prog 6 #[] W fun e w'=>e= .returned (.bool true)/\Below W.heap.size W w'):
  Calls prog 3 #[.slice A l.length c] w fun e w'=>e= .returned (.bool true)/\Below w.heap.size w w':=by
 have KB:=DY hB;have HT:=DY hT;have KR:Hid (∀W,Below w.heap.size w W->Calls prog 10 #[.slice A l.length c] W fun e w'=>e= .returned (.bool (Zc (V9 l)).isSome)/\Below W.heap.size W w'):=DY fun W hW=>Gv A c l W hq hm (h.ext hW) (hT.below hW)
 have KO:=iof_any A c l w hq hm h;clear hq hm h hT hB;by_cases hlen:13000<l.length
 ·have d1:decide (13000<l.length)=true:=decide_eq_true hlen;have d2:decide (13000<(l.length:Int))=true:=decide_eq_true (by omega);have d3:¬((l.length:Int)<=13000):=by omega
  clear KO hlen;go_enter func3,ntmps3
  go_wp2_with fail
  refine(KB.out w HT).mono ?_;rintro e w1 ⟨rfl,hb⟩;have HB:=DY hb;clear hb;go_wp2;go_ret;exact⟨rfl,HB.out⟩
 have d1:decide (13000<l.length)=false:=decide_eq_false hlen;have d2:decide (13000<(l.length:Int))=false:=decide_eq_false (by omega);have d3:¬(13000<(l.length:Int)):=by omega
 clear hlen;go_enter func3,ntmps3
 go_wp2_with fail
 refine KO.mono ?_;rintro e w1 ⟨g,A1,c1,rfl,hi,zw⟩;have zl:=img_base hi;have HI:=DY (show∀W,Below w1.heap.size w1 W->ZH W w1.heap.size g (V9 l) from fun W hW=>zl.below hW);have KM:=means_any zl (Na _);have zj:=DY zw;clear KO hi zw zl;go_wp2_with fail
 refine KM.mono ?_;rintro e w2 ⟨zr,p,Ap,cp,ok,rfl,zt⟩;have zp:=DY zt;obtain⟨w3,zo,zk,zy⟩:=DS w2 (.cells #[.int .i64 p.tx, .int .i64 p.time, .int .i64 p.unit_, .int .i64 p.data, .slice Ap p.devs.length cp] 28);have z5:=DY (Qb zr zk);have zn:=DY zk;have zH:=DY zy;have KC:=ckpool_any (HI.out w3 z5) z5.out.size ((HT.out.below zj).below z5);unfold Yc;clear KM zt zr zk zy;go_upto_region 5 with fail
 rw[<-zo];clear zo;go_wp2_with fail
 refine KC.mono ?_;rintro e w4 ⟨zh,⟨p2,s2,A2,c2,DU,rfl,zz⟩|⟨DU,v,rfl,hv⟩⟩
 ·obtain⟨w5,za,z9,zs⟩:=DS w4 (.cells #[.int .i64 p2.tx, .int .i64 p2.time, .int .i64 p2.unit_, .int .i64 p2.data, .slice A2 p2.devs.length c2] 28);have z8:=DY (Qb zh z9);have zd:=DY (Qb zj (Qb z5 z8));have zG:=DY zs;obtain⟨rfl,zm,zv⟩:p=p2/\ok=true/\Qt w2 w1.heap.size (.slice Ap p.devs.length cp) p.devs:=by
   rcases zp.out with⟨h1,⟨s,h2⟩,h3⟩|⟨-,h2⟩
   ·rw[DU] at h2;cases h2;exact⟨rfl,h1,h3⟩
   ·rw[DU] at h2;cases h2
  subst zm;have zD:=DY ((zv.keep zn).keep z8);have zB:=DY (zz.keep z9);have HL:=DY (GU DU);have zc:=DY (load_bnd HL);have z7:=KR.out w5 zd;rw[DU] at z7;clear KC KR zh z9 zs zv zz DU;unfold Yc;go_upto_region 6 with fail
  rw[<-za];clear za;go_wp2_with fail
  refine z7.mono ?_;rintro e w6 ⟨rfl,z6⟩;have zf:=DY (Qb zd z6);have zu:=DY (zD.out.keep z6);have zA:=DY (zB.out.keep z6);have k1:=Qe (Qe zH z8) z6;have k2:=Qe zG z6;obtain⟨x0,x1,x2,x3,x4⟩:=DX k1;obtain⟨y0,y1,y2,y3,y4⟩:=DX k2;have KS:=pSame_any p Ap cp A2 c2 w6 (by have:=zc.out.2.1;omega) (fun d hd=>by have:=zc.out.2.2.2 d hd;omega) zu.out.devs zA.out.devs;have zF:=DY k1;unfold Yc at KS;clear z7 z6 k1 k2;go_wp2_with fail
  refine KS.mono ?_;rintro e w7 ⟨rfl,zg⟩;have zC:=DY (Qb zf zg);have k1:=Qe zF zg;obtain⟨z0,z1,z2,z3,z4⟩:=DX k1;have KP:=U6 p Ap cp w7 (by have:=zc.out.2.1;omega) (by have:=zc.out.2.2.1;omega) (fun d hd=>by have:=zc.out.2.2.2 d hd;omega) (zu.out.keep zg).devs;unfold Yc at KP;clear KS zg k1 x0 x1 x2 x3 x4 y0 y1 y2 y3 y4;go_wp2_with fail
  refine KP.mono ?_;rintro e w8 ⟨r,rfl,hr,zx⟩;have zE:r=0:=by
   rw[(Dp HL).2.1] at hr;exact of_decide_eq_true hr
  subst zE;have zq:=DY (Qb zC zx);have ze:=KB.out w8 (HT.out.below zq);clear KP hr zx z0 z1 z2 z3 z4;go_wp2_with fail
  refine ze.mono ?_;rintro e w9 ⟨rfl,zb⟩;have zi:=DY (Qb zq zb);clear ze zb;go_wp2;go_ret;exact⟨rfl,zi.out⟩
 ·obtain⟨vt,vx,rfl⟩:=hv.form;obtain⟨w5,za,z9,-⟩:=DS w4 (.cells Zh 28);have zd:=DY (Qb zj (Qb z5 (Qb zh z9)));have zm:ok=false:=by
   rcases zp.out with⟨-,⟨s,h2⟩,-⟩|⟨h1,-⟩
   ·rw[DU] at h2;cases h2
   ·exact h1
  subst zm;have z7:=KR.out w5 zd;rw[DU] at z7;clear KC KR zh z9 DU hv;unfold Zh at za ⊢;go_upto_region 6 with fail
  rw[<-za];clear za;go_wp2_with fail
  refine z7.mono ?_;rintro e w6 ⟨rfl,z6⟩;have zf:=DY (Qb zd z6);have ze:=KB.out w6 (HT.out.below zf);clear z7 z6;go_wp2_with fail
  refine ze.mono ?_;rintro e w9 ⟨rfl,zb⟩;have zi:=DY (Qb zf zb);clear ze zb;go_wp2;go_ret;exact⟨rfl,zi.out⟩
theorem Ep{w:World}{base b s:Nat}{e:TypeId}{xs:List Value}(h:w.heap[b]?=some (.cells xs.toArray e))(hb:base<=b)(hs:xs.length=1*s):w.ownsRow base e s (.slice (some ⟨b,0,none⟩) 1 1) 1 xs:=
 ⟨hs, .inr ⟨b,1,xs.toArray,rfl,hb,h,Na _,by simp[maxLen],by simpa using hs,by simp[<-hs]⟩⟩
theorem builds_ok(w:World)(hT:XC w):Calls prog 6 #[] w fun e w'=>e= .returned (.bool true)/\Below w.heap.size w w':=by
 obtain⟨wa,z2⟩:=DR (w.alloc (.cells #[.int .i64 3, .int .i64 4, .int .i64 5] 52));obtain⟨wb,z1⟩:=DR (wa.alloc (.cells #[.int .i64 1, .int .i64 0, .int .i64 0, .int .i64 0, .slice (some ⟨w.heap.size,0,none⟩) 1 1] 49));obtain⟨w1,z3⟩:=DR (wb.alloc (.cells #[.int .i64 0, .int .i64 0, .int .i64 1, .int .i64 9, .slice (some ⟨w.heap.size+1,0,none⟩) 1 1] 28));have sa:wa.heap.size=w.heap.size+1:=by rw[z2,Nr]
 have sb:wb.heap.size=w.heap.size+1+1:=by rw[z1,Nr,sa]
 have ba:Below w.heap.size w wa:=by rw[z2];exact Qd w _
 have bb:Below wa.heap.size wa wb:=by rw[z1];exact Qd wa _
 have b1:Below wb.heap.size wb w1:=by rw[z3];exact Qd wb _
 have ha:wa.heap[w.heap.size]?=some (.cells [.int .i64 3, .int .i64 4, .int .i64 5].toArray 52):=by rw[z2];exact heap_alloc_new w _
 have hb:wb.heap[w.heap.size+1]?=some (.cells [.int .i64 1, .int .i64 0, .int .i64 0, .int .i64 0, .slice (some ⟨w.heap.size,0,none⟩) 1 1].toArray 49):=by rw[z1];exact Vi sa.symm _
 have h1:w1.heap[w.heap.size+1+1]?=some (.cells #[.int .i64 0, .int .i64 0, .int .i64 1, .int .i64 9, .slice (some ⟨w.heap.size+1,0,none⟩) 1 1] 28):=by rw[z3];exact Vi sb.symm _
 have hP:P0M w1 w.heap.size (some ⟨w.heap.size+1,0,none⟩) 1:=by
  refine⟨[(⟨1,0,0,0,[⟨3,4,5⟩]⟩, .slice (some ⟨w.heap.size,0,none⟩) 1 1)],rfl,Ep (Qe hb b1) (by omega) rfl,fun x u hx=>?_⟩
  have hx:=Lf.1 hx;cases hx;exact Ep (Qe (Qe ha bb) b1) (Na _) rfl
 obtain⟨c0,c1,c2,c3,c4⟩:=DX h1;have KL:=lay_ok hP;have z8:=DY (Qb (Qb ba bb) b1);have HT:=DY hT;have z0:w1=((w.alloc (.cells #[.int .i64 3, .int .i64 4, .int .i64 5] 52)).alloc (.cells #[.int .i64 1, .int .i64 0, .int .i64 0, .int .i64 0, .slice (some ⟨w.heap.size,0,none⟩) 1 1] 49)).alloc (.cells #[.int .i64 0, .int .i64 0, .int .i64 1, .int .i64 9, .slice (some ⟨w.heap.size+1,0,none⟩) 1 1] 28):=by rw[z3,z1,z2]
 clear z2 z1 z3 sa sb ba bb b1 ha hb h1 hP hT;go_enter func6,ntmps6
 go_upto_region 2 with fail
 rw[<-z0];clear z0;go_wp2_with fail
 refine KL.mono ?_;rintro e w2 ⟨g,Bi,Ai,ci,rfl,hi,z6⟩;have KB:=ibytes_any hi;have z9:=DY (Qb z8 z6);have HL:=DY hi.2.2.1;clear KL hi z6 c0 c1 c2 c3 c4;go_wp2_with fail
 refine KB.mono ?_;rintro e w3 ⟨A3,c3,rfl,ho,z5⟩;rw[Qm] at ho ⊢;have z7:=DY (Qb z9 z5);have KR:=Gv A3 c3 (allB bs00) w3 (YI ho) (by have:=HL.out;simp only[reachBytes];omega) (Qh.of_own ho) (HT.out.below z7);rw[laid_right] at KR;clear KB ho z5;generalize (allB bs00).length=nl at*;go_wp2_with fail
 refine KR.mono ?_;rintro e w4 ⟨rfl,z4⟩;have za:=DY (Qb z7 z4);clear KR z4;go_wp2;go_ret;exact⟨rfl,za.out⟩
theorem topSound_ok(A:Option Addr)(c:Nat)(l:List UInt8)(w:World)(hq:l.length<=c)(hm:l.length<=reachBytes)(h:Qh w w.heap.size A (bv l))(hT:XC w):
  Calls prog 3 #[.slice A l.length c] w fun e w'=>e= .returned (.bool true)/\Below w.heap.size w w':=
 E4 A c l w hq hm h hT builds_ok
theorem law_TopSound(A:Option Addr)(c:Nat)(l:List UInt8)(w:World)(hq:l.length<=c)(hm:l.length<=reachBytes)(h:Qh w w.heap.size A (bv l))(hT:XC w):
  Calls prog 3 #[.slice A l.length c] w fun e w'=>e= .returned (.bool true)/\Below w.heap.size w w':=
 topSound_ok A c l w hq hm h hT
end Go.Proofs.YtijcgllddnpmhaaGreatDoor
