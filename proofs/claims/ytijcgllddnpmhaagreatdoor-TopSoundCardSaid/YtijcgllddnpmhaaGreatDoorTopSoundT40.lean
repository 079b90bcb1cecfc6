/- TopSound: lemmas, part 40. -/
import Derived.Test.YtijcgllddnpmhaaGreatDoorTopSoundT39
import Derived.Tactics
import Derived.Tactics2
import Derived.Defers
import Derived.Recover
import Derived.Laws.Pointers
set_option maxRecDepth 100000
set_option maxHeartbeats 16000000
set_option linter.all false
namespace Go.Proofs.YtijcgllddnpmhaaGreatDoor
open Go.RowKit Go.Proofs.Tryz
theorem RO(w:World):(Instr.typeAssert Value.nilIface 20 118 true).run prog w= .ok (.tuple #[.agg #[.nilIface], .bool false]) w:=by
 rfl
theorem lay1_idle(p q:Addr)(w:World):CallsD prog 58 #[.pointer (some p), .pointer (some q)] .returning w fun e u' w'=>e= .returned (.tuple #[])/\u'= .returning/\w'=w.alloc (.cells #[.nilIface] 118):=by
 have z0:=RO;refine callsD_of_wpS func58 rfl fun c₀ cs hu=>?_
 apply wpS_seq
 apply wpS_region
 simp[wpOpsS,go_sem,recoverD,hu,ntmps58,Exit.thenS,z0];apply wpS_seq
 apply wpS_region
 simp[wpOpsS,go_sem,Exit.thenS];refine wpS_cond (t:=false) (by simp[Act.eval]) ?_;simp only[Bool.false_eq_true,if_false];refine wpS_of_wp (wp_skip ?_);cases c₀;simp_all [bodyPostS,results,Tryz.results58]
def bs00:List UInt8:=List.replicate 3072 0
theorem lay_ok{w:World}{A:Option Addr}{c B:Nat}(hP:P0M w B A c):
  Calls prog 21 #[.agg #[.int .i64 0, .int .i64 0, .int .i64 1, .int .i64 9, .slice A 1 c], .int .i64 12] w fun e w'=>∃g Bi Ai ci,e= .returned (.tuple #[.pointer (some ⟨g,0,none⟩), .nilIface])/\Img w' Bi g Ai ci (allB bs00)/\Below w.heap.size w w':=by
 have hmf:∀(fn:Fn) (first cap:Array Value) (w:World),(Instr.makeFunc fn first cap).run prog w= .ok (.func fn first cap) w:=fun _ _ _ _=>rfl
 obtain⟨w1,zf⟩:=DR (((w.alloc (.cells #[.int .i64 0, .int .i64 0, .int .i64 1, .int .i64 9, .slice A 1 c] 28)).alloc (.cells #[.pointer none] 24)).alloc (.cells #[.nilIface] 32));have zx:Below w.heap.size w w1:=by rw[zf];exact Qb (QG w _ _) (Qd _ _)
 have h0:w1.heap[w.heap.size]?=some (.cells #[.int .i64 0, .int .i64 0, .int .i64 1, .int .i64 9, .slice A 1 c] 28):=by rw[zf];exact Qj (Qj (heap_alloc_new w _) _) _
 have h4:w1.heap[w.heap.size+1]?=some (.cells #[.pointer none] 24):=by rw[zf];exact Qj (Vi (by simp) _) _
 have h5:w1.heap[w.heap.size+1+1]?=some (.cells #[.nilIface] 32):=by rw[zf];exact Vi (by simp) _
 obtain⟨c0,c1,c2,c3,c4⟩:=DX h0;have KP:=p0check A c B w1 (Qt.keep hP zx);have z7:=DY (DZ h0 (DZ h4 (DZ h5 (DZ hP zx))));clear hP zx h0 h4 h5;go_enter_defers func21,ntmps21
 go_upto_region 1 with fail
 rw[<-zf];clear zf;go_wp2_with fail
 refine KP.mono ?_;rintro e w2 ⟨rfl,zu⟩;have zw:=DY (Qb z7.out.2.2.2.2 zu);have zy:=DY zu;have K2:Calls prog 59 #[.int .i64 12] w2 _:=inew_ok 12 (by decide) w2;clear KP zu c0 c1 c2 c3 c4;go_wp2_with fail
 refine K2.mono ?_;rintro e w3 ⟨g,Ai,ci,rfl,zn,zp⟩;have z1:=Qb zy zp;have zF:=Qe z7.out.1 z1;have z9:=Qe z7.out.2.1 z1;have zA:=Qe z7.out.2.2.1 z1;have m4:=Qa z9 0 rfl;have f4:=Qf z9 0;have zE:=Qt.keep (Qt.keep z7.out.2.2.2.1 z7.out.2.2.2.2) z1;have hN:w.heap.size+3<=w1.heap.size:=by have:=(D0.1 z7.out.2.2.1).1;omega
 obtain⟨w4,zr⟩:=DR (w3.setCell ⟨w.heap.size+1,0,none⟩ (.pointer (some ⟨g,0,none⟩)));have zj:w3.grownBy w4 (some (w.heap.size+1)):=by rw[zr];exact Qo w3 _ _ _
 have z5:w4.heap[w.heap.size+1]?=some (.cells #[.pointer (some ⟨g,0,none⟩)] 24):=by rw[zr,heap_setCell_same w3 _ 0 _ _ _ z9];rfl
 have z4:=YJ zF zj (by omega);have z3:=YJ zA zj (by omega);have z2:=Jb zE zj z9 (by decide) (by decide);have z8:Img w4 w2.heap.size g Ai ci bs00:=zn.kept zj (fun e=>by
  have e:=Nd e;have hx:=zn.1;unfold Boxed at hx;rw[<-e,z9] at hx
  injection hx with hx
  injection hx with _ hx _
  exact absurd hx (by decide)) (.inr (Qi z9 (by decide) zn.2.1).symm)
 have zb:Below w.heap.size w w4:=(Qb zw zp).grown zj (Qb zw zp).size (fun k hk=>by cases hk;omega);obtain⟨d0,d1,d2,d3,d4⟩:=DX z4;have K4:=fits_ok A c B w4 z2;have zC:=DY (DZ z4 (DZ z5 (DZ z3 (DZ z2 (DZ z8 zb)))));clear K2 zn zp z1 zF z9 zA zE zj z5 z4 z3 z2 z8 zb;go_upto_region 8 with fail
 rw[<-zr];clear zr m4 f4;go_wp2_with fail
 refine K4.mono ?_;rintro e w5 ⟨rfl,zl⟩;obtain⟨z4,z5,z3,z2,z8,zb⟩:=zC.out;have m5:=Qa (Qe z5 zl) 0 rfl;have K5:=anew_ok (z8.below zl) (by decide);have zK:=DY zl;clear K4 z4 z5 z3 z2 z8 zb zl d0 d1 d2 d3 d4;go_wp2_with fail
 refine K5.mono ?_;rintro e w6 ⟨h,rfl,zJ,zB,-,-,zH,zG⟩;subst zJ;have HB:=DY (show w.heap.size<=h.B from by rw[zB];exact zw.out.size);clear zB;have zc:=Qb zK zG;obtain⟨z4,z5,z3,z2,z8,zb⟩:=zC.out;have zq:=Qe z3 zc;have e5:=Qa zq 0 rfl;have f5:=Qf zq 0;obtain⟨w7,zo⟩:=DR (w6.setCell ⟨w.heap.size+1+1,0,none⟩ .nilIface);have zi:w6.grownBy w7 (some (w.heap.size+1+1)):=by rw[zo];exact Qo w6 _ _ _
 have zh:Below w6.heap.size w6 w7:=⟨zi.os,zi.tape,zi.output,zi.size,fun j hj=>by
  by_cases ej:j=w.heap.size+1+1
  ·subst ej;rw[zo];exact JS zq rfl
  ·exact zi.block j hj (fun e2=>ej (Nd e2))⟩
 have z0:=Qb zc zh;have ze:=zH.below zh;have zg:=Qe z3 z0;have zk:=Qe z5 z0;have zD:=Qe z4 z0;have k5:=Qa zg 0 rfl;obtain⟨d0,d1,d2,d3,d4⟩:=DX zD;have K7:=lall_ok ze (Qt.keep z2 z0);have zz:=DY (DZ ze (DZ zk (DZ zg (Qb zb z0))));clear K5 zH zG zc z4 z5 z3 z2 z8 zb zq zi zh z0 ze zg zk zD;go_upto_region 11 with fail
 rw[<-zo];clear zo e5 f5 m5;go_wp2_with fail
 refine(OG w7).mono ?_;rintro e w8 ⟨rfl,rfl⟩;go_wp2_with fail
 refine K7.mono ?_;rintro e w8 ⟨rfl,zm,za⟩;obtain⟨ze,zk,zg,zh⟩:=zz.out;have zd:=ze.keep za zk (by decide) (by decide);have z6:=ze.keep za zg (by decide) (by decide);have m8:=Qa zd 0 rfl;have f8:=Qf zd 0;have m9:=Qa z6 0 rfl;have f9:=Qf z6 0;have zI:=DY (DZ zm (DZ za (DZ zd z6)));have zL:=DY (D3 zh.size za.size);clear K7 ze zk zg zh zm za zd z6 d0 d1 d2 d3 d4 k5;obtain⟨w9,zv⟩:=DR ((w8.setCell ⟨w.heap.size+1,0,none⟩ (.pointer (some ⟨h.gi,0,none⟩))).setCell ⟨w.heap.size+1+1,0,none⟩ .nilIface);go_wp2;rw[<-zv];obtain⟨zm,za,zd,z6⟩:=zI.out;have zt:Below w8.heap.size w8 w9:=by
  have ha:Below w8.heap.size w8 (w8.setCell ⟨w.heap.size+1,0,none⟩ (.pointer (some ⟨h.gi,0,none⟩))):=by
   have hg:=Qo w8 (w.heap.size+1) 0 (.pointer (some ⟨h.gi,0,none⟩));refine⟨hg.os,hg.tape,hg.output,hg.size,fun j hj=>?_⟩
   by_cases ej:j=w.heap.size+1
   ·subst ej;exact JS zd rfl
   ·exact hg.block j hj (fun e2=>ej (Nd e2))
  have h58':=Qe z6 ha;have hg:=Qo (w8.setCell ⟨w.heap.size+1,0,none⟩ (.pointer (some ⟨h.gi,0,none⟩))) (w.heap.size+1+1) 0 .nilIface;have hb:Below (w8.setCell ⟨w.heap.size+1,0,none⟩ (.pointer (some ⟨h.gi,0,none⟩))).heap.size (w8.setCell ⟨w.heap.size+1,0,none⟩ (.pointer (some ⟨h.gi,0,none⟩))) w9:=by
   rw[zv];refine⟨hg.os,hg.tape,hg.output,hg.size,fun j hj=>?_⟩
   by_cases ej:j=w.heap.size+1+1
   ·subst ej;exact JS h58' rfl
   ·exact hg.block j hj (fun e2=>ej (Nd e2))
  exact Qb ha hb
 have zs:=Qb zt (Qd w9 (.cells #[.nilIface] 118));have r4:(w9.alloc (.cells #[.nilIface] 118)).cell? ⟨w.heap.size+1,0,none⟩=some (.pointer (some ⟨h.gi,0,none⟩)):=Qa (Qe zd zs) 0 rfl;have r5:(w9.alloc (.cells #[.nilIface] 118)).cell? ⟨w.heap.size+1+1,0,none⟩=some .nilIface:=Qa (Qe z6 zs) 0 rfl;have hI:=zm.img.below zs;have hW:Below w.heap.size w (w9.alloc (.cells #[.nilIface] 118)):=zz.out.2.2.2.trans ((zz.out.1.low za HB).trans (zs.mono zL));clear zv;refine leaves_cons (f:=58) (args:=#[.pointer (some ⟨w.heap.size+1,0,none⟩), .pointer (some ⟨w.heap.size+1+1,0,none⟩)]) (by simp) (by simp[go_sem]) ?_;refine(lay1_idle _ _ _).mono ?_;rintro e u' w'' ⟨rfl,rfl,rfl⟩;simp[Leaves,settle,results,Tryz.results21,go_sem,r4,r5];exact⟨⟨h.B,h.A,h.c,hI⟩,hW⟩
theorem laid_right:(Zc (V9 (allB bs00))).isSome=true:=by decide+kernel
theorem ld_form{q:Option (List Int)}{w w':World}{e:Ending}(h:(∃l A c,q=some l/\e= .returned (.tuple #[.slice A l.length c, .slice none 0 0])/\l.length<=c/\w'.ownsRow w.heap.size 3 1 (.slice A l.length c) l.length (iv l))∨(q=none/\∃v,e= .returned (.tuple #[.slice none 0 0,v])/\OneDmg w w' v)):
  ∃QA Qn Qc u n uc,e= .returned (.tuple #[.slice QA Qn Qc, .slice u n uc])/\∃dl:List S3,n=dl.length/\dl.length<=1000000000000/\w'.ownsRow w.heap.size 79 3 (.slice u n uc) n (tv dl)/\
   ((∃l:List Int,q=some l/\dl=[]/\Qn=l.length/\w'.ownsRow w.heap.size 3 1 (.slice QA l.length Qc) l.length (iv l))∨(q=none/\dl≠[])):=by
 rcases h with⟨l,A,c,hq,rfl,hc,ho⟩|⟨hq,v,rfl,gd,x,y,z,rfl,ho⟩
 ·exact⟨_,_,_,_,_,_,rfl,[],rfl,by simp,Nb _ _ _ _, .inl ⟨l,hq,rfl,rfl,ho⟩⟩
 ·exact⟨_,_,_,_,_,_,rfl,[(x,y,z)],rfl,by simp,ho, .inr ⟨hq,by simp⟩⟩
theorem fd_data{W:World}{b:Nat}{s:Nat->Int}{p0 p1 p2 p3:Int}{P D M X:Value}(h:W.heap[b]?=some (.cells (fdC s p0 p1 p2 p3 P D M X) 76))(Q:Value):(W.setCell ⟨b,16,none⟩ Q).heap[b]?=some (.cells (fdC s p0 p1 p2 p3 P Q M X) 76):=by
 rw[heap_setCell_same W b 16 _ _ Q h];unfold fdC;simp only[Nc,Nf,Ng]
theorem st3_any{w:World}{base m g b0 b1:Nat}{bs:List UInt8}(hi:ZH w base m bs)(hbs:base<=w.heap.size)(hT:XC w){s:Nat->Int}(hs:okS s 11=true){p0 p1 p2 p3:Int}{P D M X:Value}(fuel:Int)(hfu:fuel<=1000000)(hg:w.heap[g]?=some (.cells (fdC s p0 p1 p2 p3 P D M X) 76))(hm:w.cell? ⟨b0,0,none⟩=some (.pointer (some ⟨m,0,none⟩)))(hf:w.cell? ⟨b1,0,none⟩=some (.int .i64 fuel))(hb0:b0≠g)(hb1:b1≠g):
  Calls prog 139 #[.pointer (some ⟨g,0,none⟩), .pointer (some ⟨b0,0,none⟩), .pointer (some ⟨b1,0,none⟩)] w fun e w'=>∃dl QA Qn Qc,StR w w' g e dl/\w'.heap[g]?=some (.cells (fdC s p0 p1 p2 p3 P (.slice QA Qn Qc) M X) 76)/\
   ((∃l:List Int,Xu bs (s 7) (s 8) (s 3) fuel=some l/\dl=[]/\Qn=l.length/\w'.ownsRow w.heap.size 3 1 (.slice QA l.length Qc) l.length (iv l))∨(Xu bs (s 7) (s 8) (s 3) fuel=none/\dl≠[])):=by
 have z1:=(D6 w.heap.size w).drew;have KP:=auData_any (hi.below (z1.mono hbs)) (D3 hbs z1.size) (hT.below z1) s hs fuel hfu;have z5:QQ s=#[.int .i64 (s 0), .int .i64 (s 1), .int .i64 (s 2), .int .i64 (s 3), .int .i64 (s 4), .int .i64 (s 5), .int .i64 (s 6), .int .i64 (s 7), .int .i64 (s 8), .int .i64 (s 9), .int .i64 (s 10)]:=rfl;rw[z5] at KP;have z6:=Qe hg z1;have HG:=DY z6;have zc:=DY z1;have zb:=Yg z6;have m0:=Qg z1 hm;have m1:=Qg z1 hf;have z9:=DY (show∀(V:World) (Q:Value),V.heap[g]?=some (.cells (fdC s p0 p1 p2 p3 P D M X) 76)->V.cell? ⟨b0,0,none⟩=some (.pointer (some ⟨m,0,none⟩))->V.cell? ⟨b1,0,none⟩=some (.int .i64 fuel)->
   ((V.setCell ⟨g,16,none⟩ Q).cell? ⟨b0,0,none⟩=some (.pointer (some ⟨m,0,none⟩))/\(V.setCell ⟨g,16,none⟩ Q).cell? ⟨b1,0,none⟩=some (.int .i64 fuel)/\Rp (V.setCell ⟨g,16,none⟩ Q) g s) from fun V Q h h1 h2=>by
  refine⟨?_,?_,Yg (fd_data h Q)⟩
  ·rw[World.cell?_setCell_far _ _ _ _ (fun e=>hb0 e.symm)];exact h1
  ·rw[World.cell?_setCell_far _ _ _ _ (fun e=>hb1 e.symm)];exact h2)
 clear hi hbs hT hg hm hf z1 z5 z6 hb0 hb1 hs;generalize Xu bs (s 7) (s 8) (s 3) fuel=qd at*;go_enter func139,ntmps139
 go_upto_region 1 with fail
 refine wp_region_held_drew (S:=(fun V=>V.cell? ⟨b0,0,none⟩=some (.pointer (some ⟨m,0,none⟩))/\V.cell? ⟨b1,0,none⟩=some (.int .i64 fuel)/\(V.cell? ⟨g,0,none⟩=some (.int .i64 (s 0))/\V.cell? ⟨g,1,none⟩=some (.int .i64 (s 1))/\V.cell? ⟨g,2,none⟩=some (.int .i64 (s 2))/\V.cell? ⟨g,3,none⟩=some (.int .i64 (s 3))/\V.cell? ⟨g,4,none⟩=some (.int .i64 (s 4))/\V.cell? ⟨g,5,none⟩=some (.int .i64 (s 5))/\V.cell? ⟨g,6,none⟩=some (.int .i64 (s 6))/\V.cell? ⟨g,7,none⟩=some (.int .i64 (s 7))/\V.cell? ⟨g,8,none⟩=some (.int .i64 (s 8))/\V.cell? ⟨g,9,none⟩=some (.int .i64 (s 9))/\V.cell? ⟨g,10,none⟩=some (.int .i64 (s 10))))) (by kernel_rfl) ?_ (fun hHeld=>?_)
 (focus((try dsimp only);(first|with_reducible exact⟨m0,m1,zb⟩|with_reducible exact za.out|with_reducible exact z9.out _ _ z3.out.1 z3.out.2.1 z3.out.2.2)))
 refine QD (.f 0 (.f 1 (.f 2 (.f 3 (.f 4 (.f 5 (.f 6 (.o 7 (.f 8 (.f 9 (.f 10 (.f 11 (.f 12 (.o 13 (.f 14 .e))))))))))))))) ?_
 repeat' ((first|(refine QL (v:=?_) (hv:=?_) (h:=?_);rotate_left;(focus(first|(refine .inr ⟨by rfl,?_⟩;rfl)|(refine .inl ⟨by rfl,?_⟩;intro w hSw;(try dsimp only at hSw);(try simp only[List.getElem_toArray,D4,D5]);go_simp;try(with_reducible rfl)))))|(refine Qr (h:=?_))|(((refine Qx (h:=fun K hK=>?_))<;>((try simp only[D8,D4,D5]);go_simp))<;>((first|(go_at_call 140;refine KP.mono ?_;rintro e w3 ⟨z4,z2⟩;obtain⟨QA,Qn,Qc,u,n,uc,rfl,z8⟩:=ld_form z4;have z0:=Qe HG.out z2;have za:=DY (DZ (Qg z2 m0) (DZ (Qg z2 m1) (Yg z0)));have z3:=DY (DZ z0 (DZ (Qg z2 m0) (Qg z2 m1)));have ze:=DY z8;have zg:=DY z2;have d11:=Qa z0 16 rfl;have f11:=Qf z0 16;clear z2 z4 z8 z0)|skip);refine hK.out _ _ ?_ (fun hHeld=>?_);(focus((try dsimp only);(first|with_reducible exact⟨m0,m1,zb⟩|with_reducible exact za.out|with_reducible exact z9.out _ _ z3.out.1 z3.out.2.1 z3.out.2.2)));clear hK K)))<;>(try simp only[Act.put,Nc,Nf,Ng]))
 all_goals (refine Qu ?_;refine wpAnyH_done (by kernel_rfl) ?_ _)
 go_wp2;go_ret;obtain⟨dl,hn,zf,ho,zd⟩:=ze.out;subst hn;have z0:=z3.out.1;have z7:=Qo w3 g 16 (.slice QA Qn Qc);refine⟨dl,QA,Qn,Qc,⟨u,uc,rfl,zf,ho.kept z7 (.inr (Qi z0 (by decide) ho).symm),QC (Xc (Qb zc.out zg.out) _) z7⟩,fd_data z0 _,?_⟩;rcases zd with⟨l,h1,h2,h3,h4⟩|h
 ·exact .inl ⟨l,h1,h2,h3,h4.kept z7 (.inr (Qi z0 (by decide) h4).symm)⟩
 ·exact .inr h
theorem fd_meta{W:World}{b:Nat}{s:Nat->Int}{p0 p1 p2 p3:Int}{P D M X:Value}(h:W.heap[b]?=some (.cells (fdC s p0 p1 p2 p3 P D M X) 76))(Q:Value):(W.setCell ⟨b,17,none⟩ Q).heap[b]?=some (.cells (fdC s p0 p1 p2 p3 P D Q X) 76):=by
 rw[heap_setCell_same W b 17 _ _ Q h];unfold fdC;simp only[Nc,Nf,Ng]
theorem st4_any{w:World}{base m g b0 b1:Nat}{bs:List UInt8}(hi:ZH w base m bs)(hbs:base<=w.heap.size)(hT:XC w){s:Nat->Int}(hs:okS s 11=true){p0 p1 p2 p3:Int}{P D M X:Value}(fuel:Int)(hfu:fuel<=1000000)(hg:w.heap[g]?=some (.cells (fdC s p0 p1 p2 p3 P D M X) 76))(hm:w.cell? ⟨b0,0,none⟩=some (.pointer (some ⟨m,0,none⟩)))(hf:w.cell? ⟨b1,0,none⟩=some (.int .i64 fuel))(hb0:b0≠g)(hb1:b1≠g):
  Calls prog 141 #[.pointer (some ⟨g,0,none⟩), .pointer (some ⟨b0,0,none⟩), .pointer (some ⟨b1,0,none⟩)] w fun e w'=>∃dl QA Qn Qc,StR w w' g e dl/\w'.heap[g]?=some (.cells (fdC s p0 p1 p2 p3 P D (.slice QA Qn Qc) X) 76)/\
   ((∃l:List Int,X3 bs (s 9) (s 10) (s 4) fuel=some l/\dl=[]/\Qn=l.length/\w'.ownsRow w.heap.size 3 1 (.slice QA l.length Qc) l.length (iv l))∨(X3 bs (s 9) (s 10) (s 4) fuel=none/\dl≠[])):=by
 have z1:=(D6 w.heap.size w).drew;have KP:=auMeta_any (hi.below (z1.mono hbs)) (D3 hbs z1.size) (hT.below z1) s hs fuel hfu;have z5:QQ s=#[.int .i64 (s 0), .int .i64 (s 1), .int .i64 (s 2), .int .i64 (s 3), .int .i64 (s 4), .int .i64 (s 5), .int .i64 (s 6), .int .i64 (s 7), .int .i64 (s 8), .int .i64 (s 9), .int .i64 (s 10)]:=rfl;rw[z5] at KP;have z6:=Qe hg z1;have HG:=DY z6;have zc:=DY z1;have zb:=Yg z6;have m0:=Qg z1 hm;have m1:=Qg z1 hf;have z9:=DY (show∀(V:World) (Q:Value),V.heap[g]?=some (.cells (fdC s p0 p1 p2 p3 P D M X) 76)->V.cell? ⟨b0,0,none⟩=some (.pointer (some ⟨m,0,none⟩))->V.cell? ⟨b1,0,none⟩=some (.int .i64 fuel)->
   ((V.setCell ⟨g,17,none⟩ Q).cell? ⟨b0,0,none⟩=some (.pointer (some ⟨m,0,none⟩))/\(V.setCell ⟨g,17,none⟩ Q).cell? ⟨b1,0,none⟩=some (.int .i64 fuel)/\Rp (V.setCell ⟨g,17,none⟩ Q) g s) from fun V Q h h1 h2=>by
  refine⟨?_,?_,Yg (fd_meta h Q)⟩
  ·rw[World.cell?_setCell_far _ _ _ _ (fun e=>hb0 e.symm)];exact h1
  ·rw[World.cell?_setCell_far _ _ _ _ (fun e=>hb1 e.symm)];exact h2)
 clear hi hbs hT hg hm hf z1 z5 z6 hb0 hb1 hs;generalize X3 bs (s 9) (s 10) (s 4) fuel=qd at*;go_enter func141,ntmps141
 go_upto_region 1 with fail
 refine wp_region_held_drew (S:=(fun V=>V.cell? ⟨b0,0,none⟩=some (.pointer (some ⟨m,0,none⟩))/\V.cell? ⟨b1,0,none⟩=some (.int .i64 fuel)/\(V.cell? ⟨g,0,none⟩=some (.int .i64 (s 0))/\V.cell? ⟨g,1,none⟩=some (.int .i64 (s 1))/\V.cell? ⟨g,2,none⟩=some (.int .i64 (s 2))/\V.cell? ⟨g,3,none⟩=some (.int .i64 (s 3))/\V.cell? ⟨g,4,none⟩=some (.int .i64 (s 4))/\V.cell? ⟨g,5,none⟩=some (.int .i64 (s 5))/\V.cell? ⟨g,6,none⟩=some (.int .i64 (s 6))/\V.cell? ⟨g,7,none⟩=some (.int .i64 (s 7))/\V.cell? ⟨g,8,none⟩=some (.int .i64 (s 8))/\V.cell? ⟨g,9,none⟩=some (.int .i64 (s 9))/\V.cell? ⟨g,10,none⟩=some (.int .i64 (s 10))))) (by kernel_rfl) ?_ (fun hHeld=>?_)
 (focus((try dsimp only);(first|with_reducible exact⟨m0,m1,zb⟩|with_reducible exact za.out|with_reducible exact z9.out _ _ z3.out.1 z3.out.2.1 z3.out.2.2)))
 refine QD (.f 0 (.f 1 (.f 2 (.f 3 (.f 4 (.f 5 (.f 6 (.o 7 (.f 8 (.f 9 (.f 10 (.f 11 (.f 12 (.o 13 (.f 14 .e))))))))))))))) ?_
 repeat' ((first|(refine QL (v:=?_) (hv:=?_) (h:=?_);rotate_left;(focus(first|(refine .inr ⟨by rfl,?_⟩;rfl)|(refine .inl ⟨by rfl,?_⟩;intro w hSw;(try dsimp only at hSw);(try simp only[List.getElem_toArray,D4,D5]);go_simp;try(with_reducible rfl)))))|(refine Qr (h:=?_))|(((refine Qx (h:=fun K hK=>?_))<;>((try simp only[D8,D4,D5]);go_simp))<;>((first|(go_at_call 142;refine KP.mono ?_;rintro e w3 ⟨z4,z2⟩;obtain⟨QA,Qn,Qc,u,n,uc,rfl,z8⟩:=ld_form z4;have z0:=Qe HG.out z2;have za:=DY (DZ (Qg z2 m0) (DZ (Qg z2 m1) (Yg z0)));have z3:=DY (DZ z0 (DZ (Qg z2 m0) (Qg z2 m1)));have ze:=DY z8;have zg:=DY z2;have d11:=Qa z0 17 rfl;have f11:=Qf z0 17;clear z2 z4 z8 z0)|skip);refine hK.out _ _ ?_ (fun hHeld=>?_);(focus((try dsimp only);(first|with_reducible exact⟨m0,m1,zb⟩|with_reducible exact za.out|with_reducible exact z9.out _ _ z3.out.1 z3.out.2.1 z3.out.2.2)));clear hK K)))<;>(try simp only[Act.put,Nc,Nf,Ng]))
 all_goals (refine Qu ?_;refine wpAnyH_done (by kernel_rfl) ?_ _)
 go_wp2;go_ret;obtain⟨dl,hn,zf,ho,zd⟩:=ze.out;subst hn;have z0:=z3.out.1;have z7:=Qo w3 g 17 (.slice QA Qn Qc);refine⟨dl,QA,Qn,Qc,⟨u,uc,rfl,zf,ho.kept z7 (.inr (Qi z0 (by decide) ho).symm),QC (Xc (Qb zc.out zg.out) _) z7⟩,fd_meta z0 _,?_⟩;rcases zd with⟨l,h1,h2,h3,h4⟩|h
 ·exact .inl ⟨l,h1,h2,h3,h4.kept z7 (.inr (Qi z0 (by decide) h4).symm)⟩
 ·exact .inr h
theorem foldP_len(pre:List ZO):∀(l:List Int),(pre.foldl (fun cs m=>Jd cs m.b) l).length=l.length:=by
 induction pre with
 |nil=>intro l;rfl
 |cons a r ih=>intro l;rw[List.foldl_cons,ih,addL_len]
theorem Em(p:Xe):(Yk p).length<=65536:=by
 unfold Yk
 split
 ·rename_i h
  rw[foldP_len,Nn];unfold Xx inI at h;simp only[Nu,decide_eq_true_iff] at h;omega
 ·simp
theorem RJ{bs:List UInt8}{x:Option S3}{want:Int}{l:List Int}(h:Zm bs x want=some l):(l.length:Int)=want:=by
 unfold Zm at h;cases x with
 |none=>cases h
 |some s=>
  simp only[Option.bind_some] at h;cases hb:ZV bs s.1 with
  |none=>rw[hb] at h;cases h
  |some q=>
   rw[hb] at h;simp only[Option.bind_some] at h
   split at h
   ·rename_i hc
    cases h;exact hc.1
   ·cases h
theorem Gf(bs:List UInt8):∀(ss:List (Option S3)) (n:Int) (q:List (List Int)),Ye bs ss n=some q->(q.flatten.length:Int)<=max n 0
 |[],n,q,h=>by
  cases h;simp;omega
 |x::r,n,q,h=>by
  unfold Ye at h;cases hs:Zm bs x (min n 960) with
  |none=>rw[hs] at h;cases h
  |some l=>
   rw[hs] at h;simp only[Option.bind_some] at h;cases hq:Ye bs r (n-min n 960) with
   |none=>rw[hq] at h;cases h
   |some q2=>
    rw[hq] at h;simp only[Option.map_some,Li] at h;subst h;have h1:=RJ hs;have h2:=Gf bs r _ q2 hq;rw[List.flatten_cons,D7];omega
theorem allP_leN{bs:List UInt8}{ss:List (Option S3)}{over n fuel:Int}{l:List Int}(h:UM bs ss over n fuel=some l):(l.length:Int)<=max n 0:=by
 unfold UM at h;cases hq:Ye bs ss n with
 |none=>rw[hq] at h;cases h
 |some ls=>
  rw[hq] at h;simp only[Option.bind_some] at h;cases hw:Xw bs over 5 fuel with
  |none=>rw[hw] at h;cases h
  |some es=>
   rw[hw] at h;simp only[Option.bind_some] at h
   split at h
   ·cases h;have h1:=Gf bs ss n ls hq;have h2:=joinV_len (over:=es) (Na ls.flatten.length);omega
   ·cases h
theorem EQ{bs:List UInt8}{index over n fuel:Int}{l:List Int}(h:Xu bs index over n fuel=some l):(l.length:Int)<=max n 0:=by
 unfold Xu at h;cases hw:Xw bs index 4 fuel with
 |none=>rw[hw] at h;cases h
 |some es=>
  rw[hw] at h;simp only[Option.bind_some] at h
  split at h
  ·exact allP_leN h
  ·cases h
theorem Ew{bs:List UInt8}{index over n fuel:Int}{l:List Int}(h:X3 bs index over n fuel=some l):(l.length:Int)<=max n 0:=by
 unfold X3 at h;cases hw:Zs bs index with
 |none=>rw[hw] at h;cases h
 |some es=>
  rw[hw] at h;simp only[Option.bind_some] at h
  split at h
  ·exact allP_leN h
  ·cases h
theorem some_dmg{w w':World}{n:Nat}{v:Value}(h:DM w w' n v):∃(dl:List S3) (A:Option Addr) (c:Nat),v= .slice A dl.length c/\w'.ownsRow w.heap.size 79 3 (.slice A dl.length c) dl.length (tv dl)/\dl.length=n:=by
 obtain⟨dl,A,c,rfl,h2,h3⟩:=h;exact⟨dl,A,c,h2,h3,rfl⟩
theorem st5_any{w:World}{g:Nat}{a:Nat->Int}{p0 p1 p2 p3:Int}{PA QA:Option Addr}{Pc Qc:Nat}{ls:List Q4}{l:List Int}{M X:Value}(hg:w.heap[g]?=some (.cells (fdC a p0 p1 p2 p3 (.slice PA ls.length Pc) (.slice QA l.length Qc) M X) 76))
  (hd:X5 w w.heap.size PA ls) (hl:Qh w w.heap.size QA (iv l)) (hm:ls.length<=1000000000) (hs:ZL ⟨p0,p1,p2,p3,ls⟩<=1000000000000000000) (hml:∀d∈ls,d.maps.length<=1000000000) (hll:l.length<=200000):
  Calls prog 143 #[.pointer (some ⟨g,0,none⟩)] w fun e w'=>∃dl,StR w w' g e dl/\w'.heap[g]?=some (.cells (fdC a p0 p1 p2 p3 (.slice PA ls.length Pc) (.slice QA l.length Qc) M X) 76)/\dl.length=(Zl l (Yk ⟨p0,p1,p2,p3,ls⟩)).length/\Below w.heap.size w w':=by
 have z9:=(D6 w.heap.size w).drew;have KP:=O7 ⟨p0,p1,p2,p3,ls⟩ PA Pc w.drew hm hs hml (hd.ext z9);have zf:=Em ⟨p0,p1,p2,p3,ls⟩;have z0:=Qe hg z9;have z6:=Qa z0 11 rfl;have z8:=Qa z0 12 rfl;have za:=Qa z0 13 rfl;have z3:=Qa z0 14 rfl;have z5:=Qa z0 15 rfl;have z4:=Qa z0 16 rfl;have HG:=DY z0;have zb:=DY z9;generalize Yk ⟨p0,p1,p2,p3,ls⟩=pl at*;have KC:=DY (fun(V:World) (hV:Below w.heap.size w V) (A2:Option Addr) (c2:Nat) (h2:Qh V V.heap.size A2 (iv pl))=>OS 6 QA Qc l A2 c2 pl V hll (by omega) (hl.ext hV) h2);have zh:=DY (show(Zl l pl).length<=1000000000000 from D3 (Rn l pl _) (by omega));clear hg hd hl hm hs hml z9 z0 hll zf;go_enter func143,ntmps143
 go_upto_region 1 with fail
 refine wp_region_held_drew (S:=(fun V=>V.cell? ⟨g,11,none⟩=some (.int .i64 p0)/\V.cell? ⟨g,12,none⟩=some (.int .i64 p1)/\V.cell? ⟨g,13,none⟩=some (.int .i64 p2)/\V.cell? ⟨g,14,none⟩=some (.int .i64 p3)/\V.cell? ⟨g,15,none⟩=some (.slice PA ls.length Pc)/\V.cell? ⟨g,16,none⟩=some (.slice QA l.length Qc))) (by kernel_rfl) ?_ (fun hHeld=>?_)
 (focus((try dsimp only);(first|exact⟨z6,z8,za,z3,z5,z4⟩|exact⟨Qg hb z6,Qg hb z8,Qg hb za,Qg hb z3,Qg hb z5,Qg hb z4⟩)))
 refine QD (.f 0 (.f 1 (.f 2 (.f 3 (.f 4 (.f 5 (.f 6 (.f 7 (.o 8 (.o 9 (.f 10 .e))))))))))) ?_
 repeat' ((first|(refine QL (v:=?_) (hv:=?_) (h:=?_);rotate_left;(focus(first|(refine .inr ⟨by rfl,?_⟩;rfl)|(refine .inl ⟨by rfl,?_⟩;intro w hSw;(try dsimp only at hSw);(try simp only[D8,D4,D5]);go_simp;try(with_reducible rfl)))))|(refine Qr (h:=?_))|(((refine Qx (h:=fun K hK=>?_))<;>((try simp only[D8,D4,D5]);go_simp))<;>((first|(go_at_call 31;refine KP.mono ?_;rintro e w3 ⟨A3,c3,rfl,z1,hb⟩;rw[QK] at z1 ⊢;have zg:=KC.out w3 (Qb zb.out hb) A3 c3 (Qh.of_own z1);have ze:=DY hb;clear z1)|(go_at_call 144;refine zg.mono ?_;rintro e w4 ⟨v4,rfl,zd,zi⟩;have hb:=Qb ze.out zi;obtain⟨dl,A4,c4,rfl,z7,z2⟩:=some_dmg zd;have HF:=DY (DZ z7 (DZ z2 hb));clear zd z7 z2)|skip);refine hK.out _ _ ?_ (fun hHeld=>?_);(focus((try dsimp only);(first|exact⟨z6,z8,za,z3,z5,z4⟩|exact⟨Qg hb z6,Qg hb z8,Qg hb za,Qg hb z3,Qg hb z5,Qg hb z4⟩)));clear hK K)))<;>(try simp only[Act.put,Nc,Nf,Ng]))
 all_goals (refine Qu ?_;refine wpAnyH_done (by kernel_rfl) ?_ _)
 go_wp2;go_ret;obtain⟨z7,z2,hb⟩:=HF.out;have zc:=Qb zb hb;exact⟨dl,⟨A4,c4,rfl,by rw[z2];exact zh.out,QO z7 (D3 zb.out.size ze.out.size),Xc zc _⟩,Qe HG hb,z2,zc⟩
end Go.Proofs.YtijcgllddnpmhaaGreatDoor
