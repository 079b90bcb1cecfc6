/- TopSound: lemmas, part 38. -/
import Derived.Test.YtijcgllddnpmhaaGreatDoorTopSoundT37
set_option maxRecDepth 100000
set_option maxHeartbeats 16000000
set_option linter.all false
namespace Go.Proofs.YtijcgllddnpmhaaGreatDoor
open Go.RowKit Go.Proofs.Tryz
theorem YQ{w w':World}(hg:w.grownBy w' (Value.slice none 0 0).ownBlock):Below w.heap.size w w':=⟨hg.os,hg.tape,hg.output,hg.size,fun k hk=>hg.block k hk (by simp[Value.ownBlock])⟩
theorem lmaps_ok{w:World}{q c B:Nat}(ho:w.ownsRow B 52 3 (.slice (some ⟨q,0,none⟩) 1 c) 1 [.int .i64 3, .int .i64 4, .int .i64 5]):
  Calls prog 168 #[.slice (some ⟨q,0,none⟩) 1 c] w fun e w'=>∃q' c',e= .returned (.slice (some ⟨q',0,none⟩) 1 c')/\w'.ownsRow w.heap.size 146 3 (.slice (some ⟨q',0,none⟩) 1 c') 1 (VO ⟨3,mapV 4 5,0⟩)/\Below w.heap.size w w':=by
 obtain⟨es,zf,zh,ze,zg⟩:=info_parts Tryz.infoEntL;have y0:=QW ho 0 _ rfl;have y1:=QW ho 1 _ rfl;have y2:=QW ho 2 _ rfl;have KV:=DY (fun(W:World)=>vmap_any 4 5 W);clear ho;unfold VO;dsimp only;generalize mapV 4 5=mv0 at*;go_enter func168,ntmps168
 go_wp2_with fail
 refine wp_loop_rounds 2 ?_;rw[rounds_succ];obtain⟨w1,z5⟩:=DR (w.alloc (.cells #[.int .i64 3, .int .i64 4, .int .i64 5] 52));have zc:Below w.heap.size w w1.drew:=by rw[z5];exact(Qd w _).drew
 have h1:w1.drew.heap[w.heap.size]?=some (.cells #[.int .i64 3, .int .i64 4, .int .i64 5] 52):=by rw[z5];exact heap_alloc_new w _
 have c0:w1.drew.cell? ⟨w.heap.size,0,none⟩=some (.int .i64 3):=Qa h1 0 rfl;have c1:w1.drew.cell? ⟨w.heap.size,1,none⟩=some (.int .i64 4):=Qa h1 1 rfl;have c2:w1.drew.cell? ⟨w.heap.size,2,none⟩=some (.int .i64 5):=Qa h1 2 rfl;have zd:=DY zc;clear zc h1;go_upto_region 5 with fail
 rw[<-z5];clear z5 y0 y1 y2;refine wp_region_held_drew (S:=(fun V=>V.cell? ⟨w.heap.size,0,none⟩=some (.int .i64 3)/\V.cell? ⟨w.heap.size,1,none⟩=some (.int .i64 4)/\V.cell? ⟨w.heap.size,2,none⟩=some (.int .i64 5))) (by kernel_rfl) ?_ (fun hHeld=>?_)
 (focus((try dsimp only);(first|with_reducible exact⟨c0,c1,c2⟩|with_reducible exact z1.out|with_reducible exact z9.out|with_reducible exact z8.out)))
 refine QD (.f 0 (.f 1 (.f 2 (.f 3 (.f 4 (.f 5 (.f 6 (.o 7 (.f 8 (.o 9 (.r 10 (.f 11 .e)))))))))))) ?_
 repeat' ((first|(refine QL (v:=?_) (hv:=?_) (h:=?_);rotate_left;(focus(first|(refine .inr ⟨by rfl,?_⟩;rfl)|(refine .inl ⟨by rfl,?_⟩;intro w hSw;(try dsimp only at hSw);(try simp only[D8,D4,D5]);go_simp;try(with_reducible rfl)))))|(refine Qr (h:=?_))|((first|((refine Qx (h:=fun K hK=>?_))<;>((try simp only[D8,D4,D5]);go_simp))|(refine Q0 (h:=fun K hK=>?_)))<;>((first|(go_at_call 56;refine(KV.out _).mono ?_;rintro e w2 ⟨rfl,z3⟩;have z1:=DY (DZ (Qg z3 c0) (DZ (Qg z3 c1) (Qg z3 c2)));have z4:=Qd w2 (.cells #[.int .i64 3, .string ⟨mv0.toArray⟩, .int .i64 0] 146);have z9:=Lib.hid (DZ (Qg z4 z1.out.1) (DZ (Qg z4 z1.out.2.1) (Qg z4 z1.out.2.2)));have za:=DY (Qb zd.out z3);clear z3 z4)|(refine Zg (.tmp 12) (.tmp 21) _ rfl w2.heap.size 3 146 es _ 32 underlying137 zf zh ze zg rfl (by decide) (.slice none 0 0) 0 [] rfl (Nb _ _ _ _) _ _ 1 1 [.int .i64 3, .string ⟨mv0.toArray⟩, .int .i64 0] rfl rfl (Qh.new w2 [.int .i64 3, .string ⟨mv0.toArray⟩, .int .i64 0] 146 (0,0)) (by simp[Value.oneCell']) (by simp only[maxLen];omega) (by omega) (by simp) ?_;intro A7 c7 w7 z2 zb;have z6:=YQ zb;have z0:=Qb (Qd w2 (.cells #[.int .i64 3, .string ⟨mv0.toArray⟩, .int .i64 0] 146)) z6;have z8:=DY (DZ (Qg z0 z1.out.1) (DZ (Qg z0 z1.out.2.1) (Qg z0 z1.out.2.2)));have HF:=DY (DZ (show w7.ownsRow w2.heap.size 146 3 (.slice A7 1 c7) 1 [.int .i64 3, .string ⟨mv0.toArray⟩, .int .i64 0] from z2) (Qb za.out z0));clear z2 zb z6 z0)|skip);refine hK.out _ _ ?_ (fun hHeld=>?_);(focus((try dsimp only);(first|with_reducible exact⟨c0,c1,c2⟩|with_reducible exact z1.out|with_reducible exact z9.out|with_reducible exact z8.out)));clear hK K)))<;>(try simp only[Act.put,Nc,Nf,Ng]))
 all_goals (refine Qu ?_;refine wpAnyH_done (by kernel_rfl) ?_ _)
 go_wp2_with fail
 rw[rounds_succ];go_wp2;go_ret;obtain⟨z7,z6⟩:=HF.out;obtain⟨q7,rfl⟩:=Zj z7 (by omega);exact⟨q7,c7,rfl,QO z7 za.out.size,z6⟩
theorem Gd{h:AlC}{w:World}{bs:List UInt8}{k M:Nat}{tree:Int}(hA:AlM h w bs k)(hk:k<11){x:Qv}{q c2 Bx:Nat}(ho:w.ownsRow Bx 146 3 (.slice (some ⟨q,0,none⟩) 1 c2) 1 (VO x))(hT:Ul tree [x] k M):
  Calls prog 167 #[.agg #[.pointer (some ⟨h.ga,0,none⟩)], .int .i64 tree, .slice (some ⟨q,0,none⟩) 1 c2] w fun e w'=>e= .returned (.int .i64 ((k+1:Nat):Int))/\AlM h w' (QR bs (k+1) (QX 2 ((k+1:Nat):Int) (Zi (QH tree true [x])))) (k+1)/\Q6 h w w':=by
 obtain⟨w1,z1,z0,h1⟩:=DS w (.cells #[.pointer (some ⟨h.ga,0,none⟩)] 128);have c0:=Qa h1 0 rfl;have KT:=tree1_ok (hA.below z0) hk (Qk ho z0) hT;have z4:=DY z0;clear hA hk ho hT z0 h1;generalize (QR bs (k+1) (QX 2 ((k+1:Nat):Int) (Zi (QH tree true [x]))))=nb at*;generalize ((k+1:Nat):Int)=k1 at*;go_enter func167,ntmps167
 go_upto_region 1 with fail
 rw[<-z1];clear z1;go_wp2_with fail
 refine KT.mono ?_;rintro e w2 ⟨rfl,z2,z3⟩;have HF:=DY (DZ z2 ((Q6.of_below z4).trans z3));clear KT z2 z3 c0;go_wp2_with fail
 refine(OG w2).mono ?_;rintro e w3 ⟨rfl,rfl⟩;go_wp2;go_ret;exact⟨rfl,HF.out.1,HF.out.2⟩
def entD:Qv:=⟨3,mapV 4 5,0⟩
def entT:Qv:=⟨1,XF [(QB,1)],0⟩
def entX:Qv:=⟨1,XF (GQ 1 0 0 0),0⟩
theorem tr_dev:Ul 2 [entD] 0 12:=⟨by decide+kernel,by decide+kernel,by decide+kernel,by decide+kernel,by decide+kernel,by decide+kernel,by decide+kernel,by decide+kernel,by decide+kernel,by decide+kernel⟩
theorem tr_top:Ul 1 [entT] 1 18:=⟨by decide+kernel,by decide+kernel,by decide+kernel,by decide+kernel,by decide+kernel,by decide+kernel,by decide+kernel,by decide+kernel,by decide+kernel,by decide+kernel⟩
theorem tr_det:Ul 3 [entX] 2 6:=⟨by decide+kernel,by decide+kernel,by decide+kernel,by decide+kernel,by decide+kernel,by decide+kernel,by decide+kernel,by decide+kernel,by decide+kernel,by decide+kernel⟩
def devBy(bs:List UInt8):List UInt8:=QR (QR (QR bs 1 (QX 2 1 (Zi (QH 2 true [entD])))) 2 (QX 2 2 (Zi (QH 1 true [entT])))) 3 (QX 2 3 (Zi (QH 3 true [entX])))
theorem ldevs_ok{h:AlC}{w:World}{bs:List UInt8}(hA:AlM h w bs 0){A:Option Addr}{c B:Nat}(hP:P0M w B A c):
  Calls prog 109 #[.agg #[.pointer (some ⟨h.ga,0,none⟩)], .slice A 1 c] w fun e w'=>e= .returned (.tuple #[.int .i64 2, .int .i64 3])/\AlM h w' (devBy bs) 3/\Q6 h w w':=by
 obtain⟨es,zO,zQ,zH,zE⟩:=info_parts Tryz.infoEntL;obtain⟨w1,zC,zm,h1⟩:=DS w (.cells #[.pointer (some ⟨h.ga,0,none⟩)] 128);obtain⟨us,zy,ho,z3⟩:=Qt.keep hP zm;obtain⟨⟨dx,u⟩,rfl⟩:∃x,us=[x]:=by
  match us,zy with
  |[x],_=>exact⟨x,rfl⟩
 have q5:dx=⟨1,0,0,0,[⟨3,4,5⟩]⟩:=by simpa[RY] using zy
 subst q5;have ho:w1.ownsRow B 49 5 (.slice A 1 c) 1 (dv [(⟨1,0,0,0,[⟨3,4,5⟩]⟩,u)]):=ho;obtain⟨q,rfl⟩:=Zj ho (by omega);have z8:=z3 _ _ (Lf.2 rfl);obtain⟨Am,cm,rfl⟩:=QI z8;have z8:w1.ownsRow B 52 3 (.slice Am 1 cm) 1 [.int .i64 3, .int .i64 4, .int .i64 5]:=z8;obtain⟨qm,rfl⟩:=Zj z8 (by omega);have y0:=QW ho 0 _ rfl;have y1:=QW ho 1 _ rfl;have y2:=QW ho 2 _ rfl;have y3:=QW ho 3 _ rfl;have y4:=QW ho 4 (.slice (some ⟨qm,0,none⟩) 1 cm) rfl;have qb:=DY (hA.below zm);have q0:=DY zm;have H1:=DY h1;have qc:=DY z8;clear hA hP zm h1 ho z3 zy z8;go_enter func109,ntmps109
 go_upto_region 1 with fail
 rw[<-zC];clear zC;go_wp2_with fail
 refine wp_loop_rounds 2 ?_;rw[rounds_succ];obtain⟨w2,zp⟩:=DR (w1.alloc (.cells #[.int .i64 1, .int .i64 0, .int .i64 0, .int .i64 0, .slice (some ⟨qm,0,none⟩) 1 cm] 49));have zb:Below w1.heap.size w1 w2.drew:=by rw[zp];exact(Qd w1 _).drew
 have h2:w2.drew.heap[w1.heap.size]?=some (.cells #[.int .i64 1, .int .i64 0, .int .i64 0, .int .i64 0, .slice (some ⟨qm,0,none⟩) 1 cm] 49):=by rw[zp];exact heap_alloc_new w1 _
 have zz:=Qe H1 zb;have k0:w2.drew.cell? ⟨w.heap.size,0,none⟩=some (.pointer (some ⟨h.ga,0,none⟩)):=Qa zz 0 rfl;have k4:w2.drew.cell? ⟨w1.heap.size,4,none⟩=some (.slice (some ⟨qm,0,none⟩) 1 cm):=Qa h2 4 rfl;have KM:=lmaps_ok (Qk qc zb);have q4:=DY (qb.out.below zb);have q8:=DY (Q6.of_below (h:=h) (Qb q0 zb));have H2:=DY (DZ zz h2);clear zb h2 zz;go_upto_region 5 with fail
 rw[<-zp];clear zp y0 y1 y2 y3 y4;refine wp_region_held_drew (S:=(fun V=>V.cell? ⟨w.heap.size,0,none⟩=some (.pointer (some ⟨h.ga,0,none⟩))/\V.cell? ⟨w1.heap.size,4,none⟩=some (.slice (some ⟨qm,0,none⟩) 1 cm))) (by kernel_rfl) ?_ (fun hHeld=>?_)
 (focus((try dsimp only);(first|with_reducible exact⟨k0,k4⟩|with_reducible exact zI.out|with_reducible exact zR.out)))
 refine QD (.f 0 (.f 1 (.f 2 (.o 3 (.o 4 (.f 5 .e)))))) ?_
 repeat' ((first|(refine QL (v:=?_) (hv:=?_) (h:=?_);rotate_left;(focus(first|(refine .inr ⟨by rfl,?_⟩;rfl)|(refine .inl ⟨by rfl,?_⟩;intro w hSw;(try dsimp only at hSw);(try simp only[D8,D4,D5]);go_simp;try(with_reducible rfl)))))|(refine Qr (h:=?_))|(((refine Qx (h:=fun K hK=>?_))<;>((try simp only[D8,D4,List.getElem_cons_zero]);go_simp))<;>((first|(go_at_call 168;refine KM.mono ?_;rintro e w3 ⟨q3,c3,rfl,zA,z5⟩;have zI:=DY (DZ (Qg z5 k0) (Qg z5 k4));have H3:=DY (DZ (Qe H2.out.1 z5) (Qe H2.out.2 z5));have zt:=q4.out.below z5;have zJ:=DY zt;have q2:=DY (q8.out.trans (Q6.of_below z5));have K3:=Gd zt (by omega) (x:=entD) zA tr_dev;clear zA z5 zt)|(go_at_call 167;refine K3.mono ?_;rintro e w4 ⟨rfl,zP,zl⟩;have H4:=DY (DZ (zJ.out.keep zl H3.out.1 (by decide) (by decide)) (zJ.out.keep zl H3.out.2 (by decide) (by decide)));have zR:Hid (w4.cell? ⟨w.heap.size,0,none⟩=some (.pointer (some ⟨h.ga,0,none⟩))/\w4.cell? ⟨w1.heap.size,4,none⟩=some (.slice (some ⟨qm,0,none⟩) 1 cm)):=DY ⟨Qa H4.out.1 0 rfl,Qa H4.out.2 4 rfl⟩;have q7:=DY zP;have zW:=DY (q2.out.trans zl);clear K3 zP zl)|skip);refine hK.out _ _ ?_ (fun hHeld=>?_);(focus((try dsimp only);(first|with_reducible exact⟨k0,k4⟩|with_reducible exact zI.out|with_reducible exact zR.out)));clear hK K)))<;>(try simp only[Act.put,Nc,Nf,Ng]))
 all_goals (refine Qu ?_;refine wpAnyH_done (by kernel_rfl) ?_ _)
 clear KM k0 k4;have KR:=Uo 1;generalize hrv:XF [(QB,1)]=rv1 at*;have zX:=DY hrv;clear hrv;have zw:=(D6 w4.heap.size w4).drew;have d0:w4.drew.cell? ⟨w1.heap.size,0,none⟩=some (.int .i64 1):=Qa (Qe H4.out.2 zw) 0 rfl;have zV:=DY zw;clear zw;go_upto_region 6 with fail
 refine wp_region_held_drew (S:=(fun V=>V.cell? ⟨w1.heap.size,0,none⟩=some (.int .i64 1))) (by kernel_rfl) ?_ (fun hHeld=>?_)
 (focus((try dsimp only);(first|with_reducible exact d0|with_reducible exact zn.out|with_reducible exact zh.out|with_reducible exact zK.out)))
 refine QD (.f 0 (.f 1 (.f 2 (.f 3 (.o 4 (.f 5 (.o 6 (.r 7 (.f 8 .e))))))))) ?_
 repeat' ((first|(refine QL (v:=?_) (hv:=?_) (h:=?_);rotate_left;(focus(first|(refine .inr ⟨by rfl,?_⟩;rfl)|(refine .inl ⟨by rfl,?_⟩;intro w hSw;(try dsimp only at hSw);(try simp only[D8,D4,D5]);go_simp;try(with_reducible rfl)))))|(refine Qr (h:=?_))|((first|((refine Qx (h:=fun K hK=>?_))<;>((try simp only[D8,D4,D5]);go_simp))|(refine Q0 (h:=fun K hK=>?_)))<;>((first|(go_at_call 169;refine(KR _ (by decide)).mono ?_;rintro e w5 ⟨rfl,zr⟩;have zn:=DY (Qg zr d0);have zh:=DY (Qg (Qd w5 (.cells #[.int .i64 1, .string ⟨rv1.toArray⟩, .int .i64 0] 146)) zn.out);have zZ:=DY (Qb zV.out zr);clear zr)|(refine Zg (.tmp 24) (.tmp 30) _ rfl w5.heap.size 3 146 es _ 32 underlying137 zO zQ zH zE rfl (by decide) (.slice none 0 0) 0 [] rfl (Nb _ _ _ _) _ _ 1 1 [.int .i64 1, .string ⟨rv1.toArray⟩, .int .i64 0] rfl rfl (Qh.new w5 [.int .i64 1, .string ⟨rv1.toArray⟩, .int .i64 0] 146 (0,0)) (by simp[Value.oneCell']) (by simp only[maxLen];omega) (by omega) (by simp) ?_;intro A6 c6 w6 z1 hg;have hb:=Qb (Qd w5 (.cells #[.int .i64 1, .string ⟨rv1.toArray⟩, .int .i64 0] 146)) (YQ hg);have zK:=DY (Qg hb zn.out);have zM:Hid (w6.ownsRow w5.heap.size 146 3 (.slice A6 1 c6) 1 [.int .i64 1, .string ⟨rv1.toArray⟩, .int .i64 0]):=DY z1;have zd:=DY hb;clear z1 hg hb)|skip);refine hK.out _ _ ?_ (fun hHeld=>?_);(focus((try dsimp only);(first|with_reducible exact d0|with_reducible exact zn.out|with_reducible exact zh.out|with_reducible exact zK.out)));clear hK K)))<;>(try simp only[Act.put,Nc,Nf,Ng]))
 all_goals (refine Qu ?_;refine wpAnyH_done (by kernel_rfl) ?_ _)
 clear d0 KR;obtain⟨q6,rfl⟩:=Zj zM (by omega);have zc:=DY (Qb zZ zd);have zo:=Qe H4.out.2 zc;obtain⟨e0,e1,e2,e3⟩:=DW zo;have e4:w6.cell? ⟨w1.heap.size,4,none⟩=some (.slice (some ⟨qm,0,none⟩) 1 cm):=Qa zo 4 rfl;obtain⟨w7,zk⟩:=DR (w6.alloc (.cells #[.int .i64 1, .int .i64 0, .int .i64 0, .int .i64 0] 196));have zs:Below w6.heap.size w6 w7.drew:=by rw[zk];exact(Qd w6 _).drew
 have h7:w7.drew.heap[w6.heap.size]?=some (.cells #[.int .i64 1, .int .i64 0, .int .i64 0, .int .i64 0] 196):=by rw[zk];exact heap_alloc_new w6 _
 have g0:w7.drew.cell? ⟨w1.heap.size,0,none⟩=some (.int .i64 1):=Qa (Qe zo zs) 0 rfl;have g1:w7.drew.cell? ⟨w6.heap.size,0,none⟩=some (.int .i64 1):=Qa h7 0 rfl;have g2:w7.drew.cell? ⟨w6.heap.size,1,none⟩=some (.int .i64 0):=Qa h7 1 rfl;have g3:w7.drew.cell? ⟨w6.heap.size,2,none⟩=some (.int .i64 0):=Qa h7 2 rfl;have g4:w7.drew.cell? ⟨w6.heap.size,3,none⟩=some (.int .i64 0):=Qa h7 3 rfl;have zq:=DY zs;have KD:=DY (fun(W:World)=>vdetail_any 1 0 0 0 W (by decide) (by decide) (by decide) (by decide));generalize hdt:XF (GQ 1 0 0 0)=dt1 at*;have q1:=DY hdt;clear hdt zo zs h7;go_upto_region 8 with fail
 rw[<-zk];clear zk e0 e1 e2 e3 e4;refine wp_region_held_drew (S:=(fun V=>V.cell? ⟨w1.heap.size,0,none⟩=some (.int .i64 1)/\V.cell? ⟨w6.heap.size,0,none⟩=some (.int .i64 1)/\V.cell? ⟨w6.heap.size,1,none⟩=some (.int .i64 0)/\V.cell? ⟨w6.heap.size,2,none⟩=some (.int .i64 0)/\V.cell? ⟨w6.heap.size,3,none⟩=some (.int .i64 0))) (by kernel_rfl) ?_ (fun hHeld=>?_)
 (focus((try dsimp only);(first|with_reducible exact⟨g0,g1,g2,g3,g4⟩|with_reducible exact z0.out|with_reducible exact zg.out|with_reducible exact zD.out)))
 refine QD (.f 0 (.f 1 (.f 2 (.f 3 (.o 4 (.f 5 (.o 6 (.r 7 (.f 8 .e))))))))) ?_
 repeat' ((first|(refine QL (v:=?_) (hv:=?_) (h:=?_);rotate_left;(focus(first|(refine .inr ⟨by rfl,?_⟩;rfl)|(refine .inl ⟨by rfl,?_⟩;intro w hSw;(try dsimp only at hSw);(try simp only[D8,D4,D5]);go_simp;try(with_reducible rfl)))))|(refine Qr (h:=?_))|((first|((refine Qx (h:=fun K hK=>?_))<;>((try simp only[D8,D4,D5]);go_simp))|(refine Q0 (h:=fun K hK=>?_)))<;>((first|(go_at_call 170;refine(KD.out _).mono ?_;rintro e w8 ⟨rfl,z6⟩;have z0:=DY (DZ (Qg z6 g0) (And.intro (Qg z6 g1) (DZ (Qg z6 g2) (DZ (Qg z6 g3) (Qg z6 g4)))));have z7:=Qd w8 (.cells #[.int .i64 1, .string ⟨dt1.toArray⟩, .int .i64 0] 146);have zg:=DY (DZ (Qg z7 z0.out.1) (DZ (Qg z7 z0.out.2.1) (DZ (Qg z7 z0.out.2.2.1) (DZ (Qg z7 z0.out.2.2.2.1) (Qg z7 z0.out.2.2.2.2)))));have zT:=DY (Qb zq.out z6);clear z6 z7)|(refine Zg (.tmp 42) (.tmp 48) _ rfl w8.heap.size 3 146 es _ 32 underlying137 zO zQ zH zE rfl (by decide) (.slice none 0 0) 0 [] rfl (Nb _ _ _ _) _ _ 1 1 [.int .i64 1, .string ⟨dt1.toArray⟩, .int .i64 0] rfl rfl (Qh.new w8 [.int .i64 1, .string ⟨dt1.toArray⟩, .int .i64 0] 146 (0,0)) (by simp[Value.oneCell']) (by simp only[maxLen];omega) (by omega) (by simp) ?_;intro A9 c9 w9 z1 hg;have hb:=Qb (Qd w8 (.cells #[.int .i64 1, .string ⟨dt1.toArray⟩, .int .i64 0] 146)) (YQ hg);have zD:=DY (DZ (Qg hb z0.out.1) (DZ (Qg hb z0.out.2.1) (DZ (Qg hb z0.out.2.2.1) (DZ (Qg hb z0.out.2.2.2.1) (Qg hb z0.out.2.2.2.2)))));have zL:Hid (w9.ownsRow w8.heap.size 146 3 (.slice A9 1 c9) 1 [.int .i64 1, .string ⟨dt1.toArray⟩, .int .i64 0]):=DY z1;have za:=DY hb;clear z1 hg hb)|skip);refine hK.out _ _ ?_ (fun hHeld=>?_);(focus((try dsimp only);(first|with_reducible exact⟨g0,g1,g2,g3,g4⟩|with_reducible exact z0.out|with_reducible exact zg.out|with_reducible exact zD.out)));clear hK K)))<;>(try simp only[Act.put,Nc,Nf,Ng]))
 all_goals (refine Qu ?_;refine wpAnyH_done (by kernel_rfl) ?_ _)
 clear g0 g1 g2 g3 g4;obtain⟨q9,rfl⟩:=Zj zL (by omega);have ze:=DY (Qb zT za);have z4:=DY (Qb zc ze);have zG:w9.ownsRow w5.heap.size 146 3 (.slice (some ⟨q6,0,none⟩) 1 c6) 1 (VO entT):=by
  unfold VO entT;rw[zX.out];exact Qk zM ze
 have zN:w9.ownsRow w8.heap.size 146 3 (.slice (some ⟨q9,0,none⟩) 1 c9) 1 (VO entX):=by
  unfold VO entX;rw[q1.out];exact zL.out
 have zv:=q7.out.below z4;have K9:=Gd zv (by omega) (x:=entT) zG tr_top;have zx:=Qe H4.out.1 z4;have l0:=Qa zx 0 rfl;have zB:=DY zv;have zU:=DY zN;have zY:=DY zx;have qa:=DY (zW.out.trans (Q6.of_below z4));clear zv zG zN zx;go_wp2_with fail
 rw[rounds_succ];go_wp2_with fail
 refine K9.mono ?_;rintro e w10 ⟨rfl,zj,z2⟩;have z9:=zB.out.own z2 zU.out (by decide) (by decide);have l1:=Qa (zB.out.keep z2 zY.out (by decide) (by decide)) 0 rfl;have zF:=Gd zj (by omega) (x:=entX) z9 tr_det;have zu:=DY (qa.out.trans z2);clear K9 zj z2 z9 l0;go_wp2_with fail
 refine zF.mono ?_;rintro e zS ⟨rfl,zi,zf⟩;have HF:=DY (DZ (show AlM h zS (devBy bs) 3 from zi) (zu.out.trans zf));clear zF zi zf l1;go_wp2;go_ret2
 exact⟨rfl,HF.out.1,HF.out.2⟩
theorem lcounts_ok{h:AlC}{w:World}{bs:List UInt8}(hA:AlM h w bs 6):
  Calls prog 112 #[.agg #[.pointer (some ⟨h.ga,0,none⟩)]] w fun e w'=>∃q c,e= .returned (.slice (some ⟨q,0,none⟩) 12 c)/\w'.ownsRow w.heap.size 3 1 (.slice (some ⟨q,0,none⟩) 12 c) 12 (iv cm0)/\Below w.heap.size w w':=by
 obtain⟨i0,hi,zx,zu,zv⟩:=info_parts Tryz.infoIntL;obtain⟨w1,zk,zb,h1⟩:=DS w (.cells #[.pointer (some ⟨h.ga,0,none⟩)] 128);have c0:w1.cell? ⟨w.heap.size,0,none⟩=some (.pointer (some ⟨h.ga,0,none⟩)):=Qa h1 0 rfl;have z2:=hA.below zb;have KI:=YB z2;have KB:=XW z2.img;rw[z2.len,show((3072 / 256:Nat):Int)=12 from rfl] at KB
 have KU:=DY (fun(W:World) (hW:Below w1.heap.size w1 W)=>used_ok (z2.below hW));have zo:=DY zb;clear hA zb h1 z2;go_enter func112,ntmps112
 go_upto_region 1 with fail
 rw[<-zk];clear zk;go_wp2_with fail
 refine KI.mono ?_;rintro e w2 ⟨rfl,rfl⟩;clear KI;go_wp2_with fail
 refine KB.mono ?_;rintro e w2 ⟨rfl,rfl⟩;clear KB;go_upto_region 2 with(at_make;refine wpList_make_full _ rfl (.tmp 8) (.tmp 8) _ rfl w1.heap.size 3 i0 _ 1 underlying68 hi zx zu .i64 .i64 12 12 12 rfl rfl rfl rfl (by rw[zv];omega) (by simp only[maxLen];omega) (Na _) ?_;intro w2 z1 hg;have HM:=DY (DZ z1 hg);clear z1 hg)
 obtain⟨z1,hg⟩:=HM.out;rw[Uv] at z1;have zq:w2.ownsRow w1.heap.size 3 1 (.slice (some ⟨w1.heap.size,0,none⟩) 12 12) 12 (iv (List.replicate 12 0)):=z1;have z3:Below w1.heap.size w1 w2:=(D6 _ _).grown hg (Na _) (fun k hk=>by cases hk);have zf:=DY zq;have zp:=DY z3;have k0:=Qg z3 c0;have K2:=KU.out w2 z3;clear z1 hg zq z3 c0;go_wp2_with fail
 refine K2.mono ?_;rintro e w3 ⟨rfl,rfl⟩;clear K2 k0;go_wp2_with fail
 refine wp_loop_rounds 8 ?_;rw[rounds_succ];have ca:w2.cell? ⟨w1.heap.size,0,none⟩=some (.int .i64 0):=QW zf 0 _ rfl;have fa:=zf.out.frozenAt 0;obtain⟨w3,z4⟩:=DR (w2.setCell ⟨w1.heap.size,0,none⟩ (.int .i64 1));have z0:=zf.out.stored 0 (.int .i64 1);rw[<-z4] at z0;have zh:=DY z0.1;have zr:=DY (zp.out.grown z0.2 zp.out.size (fun k hk=>by cases hk;exact Na _));clear z0;go_wp2_with fail
 rw[<-z4];clear z4 ca fa;rw[rounds_succ];have ca:w3.cell? ⟨w1.heap.size,1,none⟩=some (.int .i64 0):=QW zh 1 _ rfl;have fa:=zh.out.frozenAt 1;obtain⟨w4,zg⟩:=DR (w3.setCell ⟨w1.heap.size,1,none⟩ (.int .i64 1));have z0:=zh.out.stored 1 (.int .i64 1);rw[<-zg] at z0;have z9:=DY z0.1;have zs:=DY (zr.out.grown z0.2 zr.out.size (fun k hk=>by cases hk;exact Na _));clear z0;go_wp2_with fail
 rw[<-zg];clear zg ca fa;rw[rounds_succ];have ca:w4.cell? ⟨w1.heap.size,2,none⟩=some (.int .i64 0):=QW z9 2 _ rfl;have fa:=z9.out.frozenAt 2;obtain⟨w5,ze⟩:=DR (w4.setCell ⟨w1.heap.size,2,none⟩ (.int .i64 1));have z0:=z9.out.stored 2 (.int .i64 1);rw[<-ze] at z0;have zi:=DY z0.1;have zm:=DY (zs.out.grown z0.2 zs.out.size (fun k hk=>by cases hk;exact Na _));clear z0;go_wp2_with fail
 rw[<-ze];clear ze ca fa;rw[rounds_succ];have ca:w5.cell? ⟨w1.heap.size,3,none⟩=some (.int .i64 0):=QW zi 3 _ rfl;have fa:=zi.out.frozenAt 3;obtain⟨w6,z5⟩:=DR (w5.setCell ⟨w1.heap.size,3,none⟩ (.int .i64 1));have z0:=zi.out.stored 3 (.int .i64 1);rw[<-z5] at z0;have zc:=DY z0.1;have zl:=DY (zm.out.grown z0.2 zm.out.size (fun k hk=>by cases hk;exact Na _));clear z0;go_wp2_with fail
 rw[<-z5];clear z5 ca fa;rw[rounds_succ];have ca:w6.cell? ⟨w1.heap.size,4,none⟩=some (.int .i64 0):=QW zc 4 _ rfl;have fa:=zc.out.frozenAt 4;obtain⟨w7,z7⟩:=DR (w6.setCell ⟨w1.heap.size,4,none⟩ (.int .i64 1));have z0:=zc.out.stored 4 (.int .i64 1);rw[<-z7] at z0;have zd:=DY z0.1;have zn:=DY (zl.out.grown z0.2 zl.out.size (fun k hk=>by cases hk;exact Na _));clear z0;go_wp2_with fail
 rw[<-z7];clear z7 ca fa;rw[rounds_succ];have ca:w7.cell? ⟨w1.heap.size,5,none⟩=some (.int .i64 0):=QW zd 5 _ rfl;have fa:=zd.out.frozenAt 5;obtain⟨w8,z6⟩:=DR (w7.setCell ⟨w1.heap.size,5,none⟩ (.int .i64 1));have z0:=zd.out.stored 5 (.int .i64 1);rw[<-z6] at z0;have za:=DY z0.1;have zj:=DY (zn.out.grown z0.2 zn.out.size (fun k hk=>by cases hk;exact Na _));clear z0;go_wp2_with fail
 rw[<-z6];clear z6 ca fa;rw[rounds_succ];have ca:w8.cell? ⟨w1.heap.size,6,none⟩=some (.int .i64 0):=QW za 6 _ rfl;have fa:=za.out.frozenAt 6;obtain⟨w9,z8⟩:=DR (w8.setCell ⟨w1.heap.size,6,none⟩ (.int .i64 1));have z0:=za.out.stored 6 (.int .i64 1);rw[<-z8] at z0;have zw:=DY z0.1;have zt:=DY (zj.out.grown z0.2 zj.out.size (fun k hk=>by cases hk;exact Na _));clear z0;go_wp2_with fail
 rw[<-z8];clear z8 ca fa;rw[rounds_succ];go_wp2;go_ret;exact⟨w1.heap.size,12,rfl,QO zw zo.out.size,Qb zo zt⟩
theorem apool_any{w:World}{base m:Nat}{bs:List UInt8}(hi:ZH w base m bs)(hbs:base<=w.heap.size)(hT:XC w)(s:Nat->Int)(fuel:Int)(hfu:fuel<=1000000):
  Calls prog 138 #[.pointer (some ⟨m,0,none⟩), .agg (QQ s), .int .i64 fuel] w (GivesAP (QY bs (s 5) (s 6) (s 3) fuel) s w):=by
 have zz:QQ s=#[.int .i64 (s 0), .int .i64 (s 1), .int .i64 (s 2), .int .i64 (s 3), .int .i64 (s 4), .int .i64 (s 5), .int .i64 (s 6), .int .i64 (s 7), .int .i64 (s 8), .int .i64 (s 9), .int .i64 (s 10)]:=rfl;rw[zz];obtain⟨w2,zA,zu,-⟩:=DT w (.cells #[.int .i64 (s 0), .int .i64 (s 1), .int .i64 (s 2), .int .i64 (s 3), .int .i64 (s 4), .int .i64 (s 5), .int .i64 (s 6), .int .i64 (s 7), .int .i64 (s 8), .int .i64 (s 9), .int .i64 (s 10)] 65) (.cells #[.int .i64 0, .int .i64 0, .int .i64 0, .int .i64 0, .slice none 0 0] 28);have zR:w2.heap.size=w.heap.size+2:=by rw[zA];simp
 have zc:w2.heap[w.heap.size]?=some (.cells #[.int .i64 (s 0), .int .i64 (s 1), .int .i64 (s 2), .int .i64 (s 3), .int .i64 (s 4), .int .i64 (s 5), .int .i64 (s 6), .int .i64 (s 7), .int .i64 (s 8), .int .i64 (s 9), .int .i64 (s 10)] 65):=by rw[zA];exact Qj (heap_alloc_new w _) _
 have q8:w2.heap[w.heap.size+1]?=some (.cells #[.int .i64 0, .int .i64 0, .int .i64 0, .int .i64 0, .slice none 0 0] 28):=by rw[zA];exact OL (by simp) _
 obtain⟨w6,zj⟩:∃w6,w6=(((w2.alloc (.map #[] 0)).alloc (.map #[] 0)).alloc (.map #[] 0)).alloc (.cells (auC (.slice none 0 0) m s fuel w2.heap.size (w2.heap.size+1) (w2.heap.size+1+1)) 349):=⟨_,rfl⟩;have qa:w6.heap.size=w2.heap.size+4:=by rw[zj];simp
 have qA:Below w2.heap.size w2 w6:=by rw[zj];exact Qb (Qb (QG w2 _ _) (Qd _ _)) (Qd _ _)
 have hA:Aud w6 (w2.heap.size+1+1+1) w2.heap.size m s fuel w2.heap.size (w2.heap.size+1) (w2.heap.size+1+1) false 0 0 0 0 (fun _=>none) (fun _=>none) (fun _=>none) (.slice none 0 0):=by
  have v1:=Xm.made w2;have v2:=Xm.made (w2.alloc (.map #[] 0));have v3:=Xm.made ((w2.alloc (.map #[] 0)).alloc (.map #[] 0));rw[show(w2.alloc (.map #[] 0)).heap.size=w2.heap.size+1 by simp] at v2
  rw[show((w2.alloc (.map #[] 0)).alloc (.map #[] 0)).heap.size=w2.heap.size+1+1 by simp] at v3
  refine⟨?_,⟨[],Nb _ _ _ _,by simp,by simp⟩,?_,?_,?_,by omega,by omega,by omega,Na _,by omega,by omega,by omega,by omega,by omega⟩
  ·rw[zj];exact OL (by simp) _
  ·rw[zj];exact((v1.keep (Qd _ _)).keep (Qd _ _)).keep (Qd _ _)
  ·rw[zj];exact(v2.keep (Qd _ _)).keep (Qd _ _)
  ·rw[zj];exact v3.keep (Qd _ _)
 have c0:=Qa zc 0 rfl;have c1:=Qa zc 1 rfl;have c2:=Qa zc 2 rfl;have c3:=Qa zc 3 rfl;have c4:=Qa zc 4 rfl;have c5:=Qa zc 5 rfl;have c6:=Qa zc 6 rfl;have c7:=Qa zc 7 rfl;have c8:=Qa zc 8 rfl;have c9:=Qa zc 9 rfl;have qN:=Qa zc 10 rfl;have HI:=DY (show∀W,Below w2.heap.size w6 W->ZH W w2.heap.size m bs/\XC W/\Below w2.heap.size w2 W from fun W hW=>by
  have hb:=qA.trans hW;exact⟨((hi.below (zu.mono hbs)).more (D3 hbs zu.size)).below hb,(hb.cell (p:=⟨0,0,none⟩) (by have:=zR;show 0<_;omega)).trans (hT.below zu),hb⟩)
 have HK:=DY (DZ zc (DZ q8 (DZ zu zR)));have qJ:=DY hA;have qc:=DY hfu;have HS6:=DY qa;clear hi hbs hT zu zR zc q8 qa qA hA zz hfu;go_enter func138,ntmps138
 go_upto_region 1 with fail
 rw[show(w.alloc (.cells #[.int .i64 (s 0), .int .i64 (s 1), .int .i64 (s 2), .int .i64 (s 3), .int .i64 (s 4), .int .i64 (s 5), .int .i64 (s 6), .int .i64 (s 7), .int .i64 (s 8), .int .i64 (s 9), .int .i64 (s 10)] 65)).alloc (.cells #[.int .i64 0, .int .i64 0, .int .i64 0, .int .i64 0, .slice none 0 0] 28)=w2 from zA.symm]
 clear zA;have m1:=run_makeMap (P:=prog) 343 w2;have m2:=run_makeMap (P:=prog) 344 (w2.alloc (.map #[] 0));have m3:=run_makeMap (P:=prog) 345 ((w2.alloc (.map #[] 0)).alloc (.map #[] 0));go_upto_region 2 with fail
 rw[show(((w2.alloc (.map #[] 0)).alloc (.map #[] 0)).alloc (.map #[] 0)).alloc (.cells #[.slice none 0 0, .pointer (some ⟨m,0,none⟩), .int .i64 (s 0), .int .i64 (s 1), .int .i64 (s 2), .int .i64 (s 3), .int .i64 (s 4), .int .i64 (s 5), .int .i64 (s 6), .int .i64 (s 7), .int .i64 (s 8), .int .i64 (s 9), .int .i64 (s 10), .int .i64 fuel, .map (some w2.heap.size), .map (some (w2.heap.size+1)), .map (some (w2.heap.size+1+1))] 349)=w6 from zj.symm]
 clear zj;clear m1 m2 m3 c0 c1 c2 c3 c4 c5 c6 c7 c8 c9 qN;generalize hgA:w2.heap.size+1+1+1=gA at*;generalize hbm:w2.heap.size+1+1=bmA at*;generalize hbr:w2.heap.size+1=brA at*;have qi:=DY (show w2.heap.size<=gA by omega);clear hgA hbm hbr;have KD:=detail_any qJ (HI.out w6 (D6 _ _)).1 (HI.out w6 (D6 _ _)).2.1 qc (by omega);have zr:=audit_flag bs s fuel;have qE:=i64_key (Xo bs (s 6) 3 fuel);have ql:=i64_key (Xo bs (s 5) 1 fuel);have za:=fun(ids:List Int) hr hm=>EZ (bs:=bs) (s:=s) (fuel:=fuel) (ids:=ids) hr hm
 have zY:=audit_no (bs:=bs) (s:=s) (fuel:=fuel);have qr:=fun(W:World) (fd:Int->Option Value) (nd:Nat) (bad:Bool) (v:Value) (hA:Aud W gA w2.heap.size m s fuel w2.heap.size brA bmA bad (0+37000001) nd 0 0 fd (fun _=>none) (fun _=>none) v) (hW:Below w2.heap.size w6 W)=>atop_any hA (HI.out W hW).1 (HI.out W hW).2.1 qc (by omega)
 generalize QP bs (s 6) 3 fuel=SD at*;generalize QP bs (s 5) 1 fuel=ST at*;generalize hau:Jw bs s fuel=au at*;obtain⟨q,hq⟩:=DR (QY bs (s 5) (s 6) (s 3) fuel);rw[<-hq] at za zY ⊢;have qS:=DY qr;have zs:=DY (DZ zr (DZ qE (DZ ql (DZ za zY))));have qx:=DY hq;clear zr qE ql za zY qr hau hq;go_wp2_with fail
 refine KD.mono ?_;rintro e w7 ⟨rfl,v7,f7,n7,qk,qe,qn,q3⟩;have KT:=qS.out w7 f7 n7 _ v7 qk q3;have qd:=DY (DZ qe qn);have qQ:=DY q3;clear KD qk qe qn q3;go_wp2_with fail
 refine KT.mono ?_;rintro e w8 ⟨rfl,v8,fr8,qK,nr8,nm8,R,zE,zP,zv,zx,q7,qg⟩;rw[zs.out.1] at zE zP q7;have zk:=(HI.out w8 (qQ.out.trans qg)).2.2;have qD:=(zk.block w.heap.size (by have:=HK.out.2.2.2;omega)).trans HK.out.1;obtain⟨c0,c1,c2,c3⟩:=DW qD;obtain⟨w9,zZ,zJ,qf⟩:=DS w8 (.cells #[.int .i64 (s 0), .int .i64 (s 1), .int .i64 (s 2), .int .i64 (s 3), .slice none 0 0] 28);have qF:w9.heap.size=w8.heap.size+1:=by rw[zZ];simp
 have zi:=zE.keep zJ;have qM:=DY (zP.keep zJ);have zG:=DY zi;have qC:=DY (zk.trans (zJ.mono zE.bs));have zt:=DY (DZ qf qF);have H8:=DY (DZ zv (DZ zx q7));have q1:=DY zE.bs;obtain⟨dl,q5,qu,qj⟩:=zi.dmg;obtain⟨u9,qo,rfl⟩:=QI q5;have x0:w9.cell? ⟨gA,0,none⟩=some (.slice u9 dl.length qo):=Qa zi.row 0 rfl;have zL:=DY (DZ q5 (DZ qu qj));clear KT zE zP zv zx q7 qg zk qD zJ qf qF zi q5 qu qj;go_upto_region 5 with fail
 rw[<-zZ];clear zZ c0 c1 c2 c3;go_upto_if 37 with fail
 go_cut [39,40] (fun s39 s40 wx=>∃dl u uc A c ds,ApS wx w2.heap.size gA w8.heap.size s w2 q false dl u uc A c ds)
 case first=>
  cases au with
  |false=>
   have z8:dl≠[]:=by
    have:=zL.out.2.1;simpa using this.symm
   obtain⟨n,hn⟩:∃n,dl.length=n+1:=⟨dl.length-1,by have:=LQ.2 z8;omega⟩
   have zD:=DY (DZ z8 hn);have hc:(dl.length==0)=false:=by rw[beq_eq_false_iff_ne];omega
   clear z8 hn;go_wp2;go_meet
   exact⟨dl,u9,qo,none,0,[],⟨_,zG.out.row,rfl⟩,zL.out.1,zt.out.1,Qt.nil _ _,qC.out,D3 q1 (by have:=zt.out.2;omega),fun _=>zs.out.2.2.2.2 (by simp),fun e=>absurd e zD.out.1,by have:=zL.out.2.2;omega,by simp,fun d hd=>(by cases hd)⟩
  |true=>
   have z5:dl=[]:=by
    have:=zL.out.2.1;simpa using this.symm
   subst z5;have qH:((false||SD.bad)||!(SD.ents.all Z1))=false:=by
    have:=zs.out.1;unfold Za at this;cases hx:((false||SD.bad)||!(SD.ents.all Z1)) with
    |false=>rfl
    |true=>rw[hx] at this;simp at this
   obtain⟨qt,qv⟩:=H8.out.2.2 rfl;have qb:=qd.out.2 qH;have zi:=zG.out;have qh:=qM.out;rw[qb,qt] at zi;have KV:=DI (s 3) (fm:=qK) (by simpa using zi) (by simpa using qh) qv zs.out.2.1 zs.out.2.2.1 qd.out.1 H8.out.1 (by omega);clear qH qt qv qb zi qh;go_wp2_with fail
   refine KV.mono ?_;rintro e qs ⟨A,c,ids,ds,v10,rfl,hp,zK,z6,z9,zM,zN,zI,ht⟩;have zh:=ht.row zt.out.1 (Ve zt.out.1 zG.out.row (by decide)) (by decide);have zg:=qC.out.trans (zG.out.below ht);obtain⟨qP,zb,zd,zl⟩:=z6.dmg;obtain⟨qR,zV,rfl⟩:=QI zb;have k4:=Qa zh 4 rfl;have f4:=Qf zh 4;have q6:=DY (DZ hp (DZ zK (DZ z6 (DZ z9 (DZ zM (DZ zN (DZ zI (DZ zh (DZ zg (DZ zb (DZ zd zl)))))))))));clear KV hp zK z6 z9 zM zN zI ht zh zg zb zd zl;go_wp2;go_meet
   obtain⟨hp,zK,z6,z9,zM,zN,zI,zh,zg,zb,zd,zl⟩:=q6.out;have hg:=Qo qs w8.heap.size 4 (.slice A ds.length c);have za:=zs.out.2.2.2.1 ids hp zK;have qU:w2.heap.size<=w9.heap.size:=D3 q1 (by have:=zt.out.2;omega);refine⟨qP,qR,zV,A,c,ds,⟨_,Uy hg z6.row (Ve z6.row zh (by decide)),rfl⟩,zb.kept hg (.inr (Qi zh (by decide) zb).symm),heap_setCell_same qs w8.heap.size 4 _ _ _ zh,(zN.kept hg (fun e he u' s n xs ho=> .inr (Qi zh (by rcases he with rfl|rfl<;>decide) ho).symm)).mono qU,zg.grown hg z6.bs (fun i hi=>by cases hi;exact q1.out),D3 z6.bs hg.size,fun z8=>?_,fun z5=>?_,by omega,z9,zI⟩
   ·have zr:(!(ids.all fun i=>(Zq bs (s 3) fuel SD.ents ST.ents i).isSome))=true:=by rw[zd];exact decide_eq_true z8
    rw[za,if_pos trivial];have:(ids.mapM (Zq bs (s 3) fuel SD.ents ST.ents)).isSome=false:=by rw[J8];simpa using zr
    cases hq:ids.mapM (Zq bs (s 3) fuel SD.ents ST.ents) with
    |none=>rfl
    |some x=>rw[hq] at this;cases this
   ·have zr:(!(ids.all fun i=>(Zq bs (s 3) fuel SD.ents ST.ents i).isSome))=false:=by rw[zd];simpa using z5
    rw[za,if_pos trivial,zM zr];simp
 case rest=>
  obtain⟨dl,u,uc,A,c,ds,hS⟩:=hcut;obtain⟨wq,qO⟩:=DR wc;subst qO;obtain⟨cs,zf,ze⟩:=hS.row;have y0:wq.cell? ⟨gA,0,none⟩=some (.slice u dl.length uc):=Qa zf 0 ze;have p0:=Qa hS.p 0 rfl;have p1:=Qa hS.p 1 rfl;have p2:=Qa hS.p 2 rfl;have p3:=Qa hS.p 3 rfl;have p4:=Qa hS.p 4 rfl;have HS:=DY hS;have zT:=Km ds hS.ml;have KP:=RZ ⟨s 0,s 1,s 2,s 3,ds⟩ A c wq (by have:=hS.n;show ds.length<=_;omega) (by have:=hS.n;show(ds.map fun d=>d.maps.length).sum<=_;omega) hS.dev.devs;have hn36:=hS.n;clear hS zf ze zT;go_upto_region 7 with fail
  go_cut [45,46,47,48,49,50,51,52,53,54,55,56,57,58] (fun s45 s46 s47 s48 s49 s50 s51 s52 s53 s54 s55 s56 s57 s58 wx=>∃cb:Bool,s58= .bool cb/\Below wq.heap.size wq wx/\(cb=true->dl=[]/\¬(ds.length<=4096/\(ds.map fun d=>d.maps.length).sum<=16384))/\(cb=false->dl=[]->ds.length<=4096/\(ds.map fun d=>d.maps.length).sum<=16384))
  case first=>
   obtain⟨sm,zB⟩:=DR ((ds.map fun d=>d.maps.length).sum);have zO:ZL ⟨s 0,s 1,s 2,s 3,ds⟩=sm:=zB.symm;rw[zO] at KP;have qy:=DY zB;by_cases z5:dl=[]
   ·subst z5;by_cases hbig:ds.length<=4096
    ·have d1:decide ((4096:Int)<(ds.length:Int))=false:=decide_eq_false (by omega);have qT:=DY hbig;clear zB zO hbig;go_wp2_with fail
     refine KP.mono ?_;rintro e wz ⟨rfl,qI⟩;have qw:=DY qI;clear KP qI;by_cases hs:sm<=16384
     ·have d2:decide ((16384:Int)<(sm:Int))=false:=decide_eq_false (by omega);go_wp2;go_meet
      exact⟨false,rfl,qw.out,fun e=>(by cases e),fun _ _=>⟨qT.out,by rw[<-qy.out];exact hs⟩⟩
     ·have d2:decide ((16384:Int)<(sm:Int))=true:=decide_eq_true (by omega);go_wp2;go_meet
      exact⟨true,rfl,qw.out,fun _=>⟨by simp,fun h=>hs (by rw[qy.out];exact h.2)⟩,fun e=>(by cases e)⟩
    ·have d1:decide ((4096:Int)<(ds.length:Int))=true:=decide_eq_true (by omega);clear KP zB zO;go_wp2;go_meet
     exact⟨true,rfl,Below.refl _ _,fun _=>⟨by simp,fun h=>hbig h.1⟩,fun e=>(by cases e)⟩
   ·have hc:(dl.length==0)=false:=by rw[beq_eq_false_iff_ne];exact fun e=>z5 (Lp.1 e)
    have zX:=Lib.hid z5;clear KP zB zO z5;go_wp2;go_meet
    exact⟨false,rfl,Below.refl _ _,fun e=>(by cases e),fun _ e=>absurd e zX.out⟩
  case rest=>
   obtain⟨cb,rfl,zp,zw,zF⟩:=hcut;have zn:ApS wc w2.heap.size gA w8.heap.size s w2 q false dl u uc A c ds:=by
    have h:=HS.out;obtain⟨cs,h1,h2⟩:=h.row;exact⟨⟨cs,Qe h1 zp,h2⟩,Qk h.own zp,Qe h.p zp,h.dev.keep zp,h.bel.trans (zp.mono h.bs),D3 h.bs zp.size,h.bad,h.ok,h.dn,h.n,h.ml⟩
   obtain⟨cs,zf,ze⟩:=zn.row;have KA:=fun(h:dl=[])=>Vl (w:=wc) (g:=gA) (base:=w2.heap.size) (cs:=cs) (t:=349) (bad:=decide (dl≠[])) (N:=dl.length) zf (by decide) ze ⟨dl,zn.own,rfl,Na _⟩ zn.bs (by have:=zn.dn;omega) 4 0 2
   have qG:=DY zn;have zW:=DY (DZ zf ze);have zH:=DY (DZ zw zF);have HDN:=Lib.hid zn.dn;clear zn zf ze zw zF zp HS y0 p0 p1 p2 p3 p4;obtain⟨wq2,zQ⟩:=DR wc;subst zQ;go_upto_if 58 with fail
   go_cut [59,60,61,62] (fun s59 s60 s61 s62 wx=>∃dl u uc A c ds,ApS wx w2.heap.size gA w8.heap.size s w2 q true dl u uc A c ds)
   case first=>
    cases cb with
    |false=>
     go_wp2;go_meet
     have h:=qG.out;exact⟨dl,u,uc,A,c,ds,h.row,h.own,h.p,h.dev,h.bel,h.bs,h.bad,fun e=>(by rw[h.ok e,if_pos (.inr (zH.out.2 (by simp) e)),if_pos (.inl rfl)]),h.dn,h.n,h.ml⟩
    |true=>
     have zm:=(zH.out.1 (by simp)).1;have KA:=KA zm;have q4:=DY zm;clear zm;go_wp2_with fail
     refine KA.mono ?_;rintro e wz ⟨rfl,v5,q9,⟨q0,zU,zS,q2⟩,zC⟩;obtain⟨u5,qB,rfl⟩:=QI zU;have z8:q0≠[]:=by
      simp at zS;exact zS
     have h:=qG.out;have qz:=zC.row h.p (Ve h.p zW.out.1 (by decide)) (by decide);have hF:ApS wz w2.heap.size gA w8.heap.size s w2 q true q0 u5 qB A c ds:=⟨⟨_,q9,by rw[Lt (D0.1 zW.out.2).1]⟩,zU,qz,h.dev.added zW.out.1 zC,h.bel.trans (zC.below qi (Na _) h.bs),D3 h.bs zC.size,fun _=>(by rw[h.ok (zH.out.1 (by simp)).1,if_neg (by rintro(e|e);cases e;exact(zH.out.1 (by simp)).2 e)]),fun e=>absurd e z8,by have:=q4.out;rw[this] at q2;simp at q2;omega,h.n,h.ml⟩
     have HF:=DY hF;clear KA q9 zU zS q2 zC z8 h qz hF;go_wp2;go_meet
     exact⟨q0,u5,qB,A,c,ds,HF.out⟩
   case rest=>
    obtain⟨dl,u,uc,A,c,ds,hS⟩:=hcut;obtain⟨cs,zf,ze⟩:=hS.row;have x0:wc.cell? ⟨gA,0,none⟩=some (.slice u dl.length uc):=Qa zf 0 ze;by_cases z8:dl=[]
    ·subst z8;have HS:=DY hS;have z7:=(hS.bel.block (w.heap.size+1) (by have:=HK.out.2.2.2;omega)).trans HK.out.2.1;have p0:=Qa hS.p 0 rfl;have p1:=Qa hS.p 1 rfl;have p2:=Qa hS.p 2 rfl;have p3:=Qa hS.p 3 rfl;have p4:=Qa hS.p 4 rfl;obtain⟨z0,z1,z2,z3,z4⟩:=DX z7;have g0:=Qf z7 0;have g1:=Qf z7 1;have g2:=Qf z7 2;have g3:=Qf z7 3;have g4:=Qf z7 4;have zy:=DY z7;clear hS zf ze z7;go_wp2;refine bodyPost_ret (v:= .tuple #[.agg #[.int .i64 (s 0), .int .i64 (s 1), .int .i64 (s 2), .int .i64 (s 3), .slice A ds.length c], .slice none 0 0]) (by rw[results_cell_tmp rfl];go_simp) rfl ?_;have h:=HS.out;have hg:=Zz wc (w.heap.size+1) (.int .i64 (s 0)) (.int .i64 (s 1)) (.int .i64 (s 2)) (.int .i64 (s 3)) (.slice A ds.length c);have zo:w.heap.size<=wc.heap.size:=by have:=(D0.1 zy).1;omega
     have hb:=(HK.out.2.2.1.trans (h.bel.mono (by have:=HK.out.2.2.2;omega))).grown hg zo (fun k e=>by cases e;omega);exact⟨hb, .inl ⟨ds,A,c,by rw[<-qx.out,h.ok rfl,if_pos (.inl rfl)],rfl,(h.dev.kept hg (fun e he u' s n xs ho=> .inr (Qi zy.out (by rcases he with rfl|rfl<;>decide) ho).symm)).mono (by have:=HK.out.2.2.2;omega)⟩⟩
    ·obtain⟨n,hn⟩:∃n,dl.length=n+1:=⟨dl.length-1,by have:=LQ.2 z8;omega⟩
     have zD:=DY (DZ z8 (DZ hn hS.dn));have qL:=DY (qx.out.symm.trans (hS.bad z8));have qp:=DY hS.bel;have qm:=DY hS.own;rw[hn] at x0;clear z8 hn hS zf ze;have z7:=(qp.out.block (w.heap.size+1) (by have:=HK.out.2.2.2;omega)).trans HK.out.2.1;have zq:gA≠w.heap.size+1:=by have:=qi.out;have:=HK.out.2.2.2;omega
     have qq:=DY (show∀(V:World) (x0 x1 x2 x3 x4:Value) (y:Value),V.cell? ⟨gA,0,none⟩=some y->(((((V.setCell ⟨w.heap.size+1,0,none⟩ x0).setCell ⟨w.heap.size+1,1,none⟩ x1).setCell ⟨w.heap.size+1,2,none⟩ x2).setCell ⟨w.heap.size+1,3,none⟩ x3).setCell ⟨w.heap.size+1,4,none⟩ x4).drew.cell? ⟨gA,0,none⟩=some y from fun V x0 x1 x2 x3 x4 y h=>by
      show(((((V.setCell ⟨w.heap.size+1,0,none⟩ x0).setCell ⟨w.heap.size+1,1,none⟩ x1).setCell ⟨w.heap.size+1,2,none⟩ x2).setCell ⟨w.heap.size+1,3,none⟩ x3).setCell ⟨w.heap.size+1,4,none⟩ x4).cell? ⟨gA,0,none⟩=some y
      rw[World.cell?_setCell_far _ _ _ _ (fun e=>zq e.symm),World.cell?_setCell_far _ _ _ _ (fun e=>zq e.symm),World.cell?_setCell_far _ _ _ _ (fun e=>zq e.symm),World.cell?_setCell_far _ _ _ _ (fun e=>zq e.symm),World.cell?_setCell_far _ _ _ _ (fun e=>zq e.symm)];exact h)
     have x0':=Qg (D6 wc.heap.size wc).drew x0;obtain⟨z0,z1,z2,z3,z4⟩:=DX z7;have g0:=Qf z7 0;have g1:=Qf z7 1;have g2:=Qf z7 2;have g3:=Qf z7 3;have g4:=Qf z7 4;have zy:=DY z7;clear z7 zq;go_upto_region 10 with fail
     refine wp_region_held_drew (S:=(fun V=>V.cell? ⟨gA,0,none⟩=some (.slice u (n+1) uc))) (by kernel_rfl) ?_ (fun hHeld=>?_)
     (focus((try dsimp only);(first|with_reducible exact x0'|with_reducible exact qq.out _ _ _ _ _ _ _ x0)))
     refine QD (.f 0 (.f 1 (.f 2 (.f 3 (.f 4 (.f 5 (.o 6 (.f 7 .e)))))))) ?_
     repeat' ((first|(refine QL (v:=?_) (hv:=?_) (h:=?_);rotate_left;(focus(first|(refine .inr ⟨by rfl,?_⟩;rfl)|(refine .inl ⟨by rfl,?_⟩;intro w hSw;(try dsimp only at hSw);(try simp only[D8,D4,D5]);go_simp;try(with_reducible rfl)))))|(refine Qr (h:=?_))|(((refine Qx (h:=fun K hK=>?_))<;>((try simp only[D8,D4,D5]);go_simp))<;>(skip;refine hK.out _ _ ?_ (fun hHeld=>?_);(focus((try dsimp only);(first|with_reducible exact x0'|with_reducible exact qq.out _ _ _ _ _ _ _ x0)));clear hK K)))<;>(try simp only[Act.put,Nc,Nf,Ng]))
     all_goals (refine Qu ?_;refine wpAnyH_done (by kernel_rfl) ?_ _)
     go_wp2;refine bodyPost_ret (v:= .tuple #[.agg #[.int .i64 0, .int .i64 0, .int .i64 0, .int .i64 0, .slice none 0 0], .slice u (n+1) uc]) (by rw[results_cell_tmp rfl];go_simp) rfl ?_;have hg:=Zz wc (w.heap.size+1) (.int .i64 0) (.int .i64 0) (.int .i64 0) (.int .i64 0) (.slice none 0 0);have zo:w.heap.size<=wc.heap.size:=by have:=(D0.1 zy).1;omega
     have hb:=((HK.out.2.2.1.trans (qp.out.mono (by have:=HK.out.2.2.2;omega))).grown hg zo (fun k e=>by cases e;omega)).drew;refine⟨hb, .inr ⟨qL.out,dl,u,uc,zD.out.1,zD.out.2.2,by rw[zD.out.2.1],?_⟩⟩
     have ho:=QO (base':=w.heap.size) (qm.out.kept hg (.inr (Qi zy.out (by decide) qm.out).symm)) (by have:=HK.out.2.2.2;omega);exact Qk ho (D6 _ _).drew
end Go.Proofs.YtijcgllddnpmhaaGreatDoor
