/- TopSound: lemmas, part 35. -/
import Derived.Test.YtijcgllddnpmhaaGreatDoorTopSoundT33
set_option maxRecDepth 100000
set_option maxHeartbeats 16000000
set_option linter.all false
namespace Go.Proofs.YtijcgllddnpmhaaGreatDoor
open Go.RowKit Go.Proofs.Tryz
theorem JS{W:World}{b i:Nat}{cs:Array Value}{t:TypeId}{v:Value}(h:W.heap[b]?=some (.cells cs t (0,0)))(hv:cs[i]?=some v):(W.setCell ⟨b,i,none⟩ v).heap[b]?=W.heap[b]?:=by
 rw[heap_setCell_same W b i _ _ _ h,h]
 congr 2
 apply Array.ext_getElem?
 intro j;rw[Array.getElem?_setIfInBounds]
 split
 ·rename_i h2;subst h2
  split
  ·exact hv.symm
  ·rename_i h3;rw[Array.getElem?_eq_none (by omega)] at hv;cases hv
 ·rfl
theorem Vi{w:World}{k:Nat}(h:k=w.heap.size)(o:Obj):(w.alloc o).heap[k]?=some o:=by subst h;exact heap_alloc_new w o
theorem treeC0_ok{h:AlC}{w:World}{bs:List UInt8}{k M:Nat}{tree:Int}(hA:AlM h w bs k)(hk:k<11)(A2:Option Addr)(c2:Nat)(hT:Ul tree [] k M){b3 b4 b8:Nat}(h3:w.cell? ⟨b3,0,none⟩=some (.pointer (some ⟨h.ga,0,none⟩)))(h4:w.cell? ⟨b4,0,none⟩=some (.int .i64 tree))(h8:w.heap[b8]?=some (.cells #[.nilIface] 32)):
  Calls prog 229 #[.bool true, .slice A2 0 c2, .pointer (some ⟨b3,0,none⟩), .pointer (some ⟨b4,0,none⟩), .pointer (some ⟨b8,0,none⟩)] w fun e w'=>∃qa ca z3 v,e= .returned (.slice (some ⟨qa,0,none⟩) 1 ca)/\w'.ownsRow w.heap.size 146 3 (.slice (some ⟨qa,0,none⟩) 1 ca) 1 [.int .i64 z3, .string v, .int .i64 ((k+1:Nat):Int)]/\AlM h w' (QR bs (k+1) (QX 2 ((k+1:Nat):Int) (Zi (QH tree true [])))) (k+1)/\Q6 h w w':=by
 have KL:=level0_ok hA hk A2 c2 hT;have H8:=DY h8;have HA:=DY hA;clear hk hT h8 hA;generalize (QR bs (k+1) (QX 2 ((k+1:Nat):Int) (Zi (QH tree true []))))=nb at*;generalize ((k+1:Nat):Int)=k1 at*;go_enter func229,ntmps229
 go_wp2_with fail
 refine KL.mono ?_;rintro e w2 ⟨qa,ca,z3,v,rfl,ho,z2,z1⟩;have z0:=HA.out.keep z1 H8.out (by decide) (by decide);have c8:w2.cell? ⟨b8,0,none⟩=some .nilIface:=Qa z0 0 rfl;have f8:=Qf z0 0;have HF:=DY (DZ ho (DZ z2 (DZ z1 z0)));clear KL ho z2 z1 z0;go_wp2;go_ret;obtain⟨ho,z2,z1,z0⟩:=HF.out;have hg:=Qo w2 b8 0 .nilIface;have hb:Below w2.heap.size w2 (w2.setCell ⟨b8,0,none⟩ .nilIface):=⟨hg.os,hg.tape,hg.output,hg.size,fun j hj=>by
  by_cases e:j=b8
  ·subst e;exact JS z0 rfl
  ·exact hg.block j hj (fun e2=>e (Nd e2))⟩
 exact⟨qa,ca,z3,v,rfl,Qk ho hb,z2.below hb,z1.trans (Q6.of_below hb)⟩
theorem tree0_ok{h:AlC}{w:World}{bs:List UInt8}{k M:Nat}{tree:Int}(hA:AlM h w bs k)(hk:k<11)(A2:Option Addr)(c2:Nat)(hT:Ul tree [] k M):
  Calls prog 176 #[.pointer (some ⟨h.ga,0,none⟩), .int .i64 tree, .slice A2 0 c2] w fun e w'=>e= .returned (.tuple #[.int .i64 ((k+1:Nat):Int), .nilIface])/\AlM h w' (QR bs (k+1) (QX 2 ((k+1:Nat):Int) (Zi (QH tree true [])))) (k+1)/\Q6 h w w':=by
 have hmf:∀(fn:Fn) (first cap:Array Value) (w:World),(Instr.makeFunc fn first cap).run prog w= .ok (.func fn first cap) w:=fun _ _ _ _=>rfl
 obtain⟨w1,z5,z7,h3⟩:=DT w (.cells #[.pointer (some ⟨h.ga,0,none⟩)] 123) (.cells #[.int .i64 tree] 3);have h4:w1.heap[w.heap.size+1]?=some (.cells #[.int .i64 tree] 3):=by rw[z5];exact Vi (by simp) _
 have c3:w1.cell? ⟨w.heap.size,0,none⟩=some (.pointer (some ⟨h.ga,0,none⟩)):=Qa h3 0 rfl;have c4:w1.cell? ⟨w.heap.size+1,0,none⟩=some (.int .i64 tree):=Qa h4 0 rfl;have z0:=hA.below z7;have KI:=YB z0;have KR:=right0_ok (w:=w1) A2 c2 hT;have KR:=DY (show Calls prog 228 #[.int .i64 tree, .slice A2 0 c2] w1 _ from KR);have KF:=DY (fun(W:World) (hW:Below w1.heap.size w1 W)=>Rk (z0.below hW) hk);have KN:=DY (fun(W:World)=>(show Calls prog 105 #[.int .i64 tree, .int .i64 0] W fun e w'=>e= .returned (.int .i64 1)/\Below W.heap.size W w' from by
  have:=Yt tree 0 W;rw[show Yu tree 0=1 from hT.nd] at this
  exact this))
 have KC:=DY (fun(W:World) (hW:Below w1.heap.size w1 W) (b8:Nat) (h8:W.heap[b8]?=some (.cells #[.nilIface] 32))=>treeC0_ok (z0.below hW) hk A2 c2 hT (b8:=b8) (Qg hW c3) (Qg hW c4) h8);have zi:=DY z7;have zl:=DY z0;have hge:¬(((11-k:Nat):Int)<1):=by omega
 clear hA hk hT z7 h3 h4 z0;generalize (QR bs (k+1) (QX 2 ((k+1:Nat):Int) (Zi (QH tree true []))))=nb at*;generalize ((k+1:Nat):Int)=k1 at*;generalize ((11-k:Nat):Int)=lf at*;go_enter func176,ntmps176
 go_upto_region 1 with fail
 rw[show(w.alloc (.cells #[.pointer (some ⟨h.ga,0,none⟩)] 123)).alloc (.cells #[.int .i64 tree] 3)=w1 from z5.symm]
 clear z5;go_wp2_with fail
 refine KI.mono ?_;rintro e w2 ⟨rfl,rfl⟩;clear KI;go_wp2_with fail
 refine KR.out.mono ?_;rintro e w2 ⟨rfl,z2⟩;have d3:=Qg z2 c3;have d4:=Qg z2 c4;have zk:=DY z2;clear z2;go_upto_region 5 with fail
 have zc:=DY (Qb zk (D6 w2.heap.size w2).drew);have e3:=Qg (D6 w2.heap.size w2).drew d3;have e4:=Qg (D6 w2.heap.size w2).drew d4;clear d3 d4;refine wp_region_held_drew (S:=(fun V=>V.cell? ⟨w.heap.size,0,none⟩=some (.pointer (some ⟨h.ga,0,none⟩))/\V.cell? ⟨w.heap.size+1,0,none⟩=some (.int .i64 tree))) (by kernel_rfl) ?_ (fun hHeld=>?_)
 (focus((try dsimp only);(first|with_reducible exact⟨e3,e4⟩|with_reducible exact z3.out|with_reducible exact ze.out)))
 refine QD (.f 0 (.f 2 (.f 3 (.f 4 (.o 1 (.o 5 (.f 6 (.f 7 .e)))))))) ?_
 repeat' ((first|(refine QL (v:=?_) (hv:=?_) (h:=?_);rotate_left;(focus(first|(refine .inr ⟨by rfl,?_⟩;rfl)|(refine .inl ⟨by rfl,?_⟩;intro w hSw;(try dsimp only at hSw);(try simp only[D8,D4,D5]);go_simp;try(with_reducible rfl)))))|(refine Qr (h:=?_))|(((refine Qx (h:=fun K hK=>?_))<;>((try simp only[D8,D4,D5]);go_simp))<;>((first|(go_at_call 172;refine(KF.out _ zc.out).mono ?_;rintro e w5 ⟨rfl,zg⟩;have z1:Below w2.drew.heap.size w2.drew w5:=zg.symm▸(D6 w2.drew.heap.size w2.drew).drew;have z3:=DY (DZ (Qg z1 e3) (Qg z1 e4));have zh:=DY (Qb zc.out z1);clear z1 zg)|(go_at_call 105;refine(KN.out _).mono ?_;rintro e w6 ⟨rfl,z4⟩;have ze:=DY (DZ (Qg z4 z3.out.1) (Qg z4 z3.out.2));have zm:=DY (Qb zh.out z4);clear z4)|skip);refine hK.out _ _ ?_ (fun hHeld=>?_);(focus((try dsimp only);(first|with_reducible exact⟨e3,e4⟩|with_reducible exact z3.out|with_reducible exact ze.out)));clear hK K)))<;>(try simp only[Act.put,Nc,Nf,Ng]))
 all_goals (refine Qu ?_;refine wpAnyH_done (by kernel_rfl) ?_ _)
 clear e3 e4;obtain⟨w7,zb,z9,h8⟩:=DS w6 (.cells #[.nilIface] 32);have z6:=DY (Qb zm z9);have K7:=KC.out w7 z6 w6.heap.size h8;have H8:=DY h8;have zj:=DY (zl.out.below z6);clear z9 h8;go_upto_region 8 with fail
 rw[<-zb];clear zb;go_wp2_with fail
 refine K7.mono ?_;rintro e w8 ⟨qa,ca,key,v,rfl,zd,za,z8⟩;have zf:=zj.out.keep z8 H8.out (by decide) (by decide);have e8:w8.cell? ⟨w6.heap.size,0,none⟩=some .nilIface:=Qa zf 0 rfl;have u2:=QW zd 2 _ rfl;have HF:=DY (DZ za z8);clear K7 zd za z8 zf;go_wp2_with fail
 refine wp_loop_rounds 1 ?_;rw[rounds_succ];go_wp2;go_ret2
 exact⟨rfl,HF.out.1,(Q6.of_below (Qb zi z6)).trans HF.out.2⟩
theorem treeC1_ok{h:AlC}{w:World}{bs:List UInt8}{k M:Nat}{tree:Int}(hA:AlM h w bs k)(hk:k<11){x:Qv}{q c2 Bx:Nat}(ho:w.ownsRow Bx 146 3 (.slice (some ⟨q,0,none⟩) 1 c2) 1 (VO x))(hT:Ul tree [x] k M){b3 b4 b8:Nat}(h3:w.cell? ⟨b3,0,none⟩=some (.pointer (some ⟨h.ga,0,none⟩)))(h4:w.cell? ⟨b4,0,none⟩=some (.int .i64 tree))(h8:w.heap[b8]?=some (.cells #[.nilIface] 32)):
  Calls prog 229 #[.bool true, .slice (some ⟨q,0,none⟩) 1 c2, .pointer (some ⟨b3,0,none⟩), .pointer (some ⟨b4,0,none⟩), .pointer (some ⟨b8,0,none⟩)] w fun e w'=>∃qa ca z3 v,e= .returned (.slice (some ⟨qa,0,none⟩) 1 ca)/\w'.ownsRow w.heap.size 146 3 (.slice (some ⟨qa,0,none⟩) 1 ca) 1 [.int .i64 z3, .string v, .int .i64 ((k+1:Nat):Int)]/\AlM h w' (QR bs (k+1) (QX 2 ((k+1:Nat):Int) (Zi (QH tree true [x])))) (k+1)/\Q6 h w w':=by
 have KL:=level1_ok hA hk ho hT;have H8:=DY h8;have HA:=DY hA;clear hk hT h8 hA ho;generalize (QR bs (k+1) (QX 2 ((k+1:Nat):Int) (Zi (QH tree true [x]))))=nb at*;generalize ((k+1:Nat):Int)=k1 at*;go_enter func229,ntmps229
 go_wp2_with fail
 refine KL.mono ?_;rintro e w2 ⟨qa,ca,z3,v,rfl,ho,z2,z1⟩;have z0:=HA.out.keep z1 H8.out (by decide) (by decide);have c8:w2.cell? ⟨b8,0,none⟩=some .nilIface:=Qa z0 0 rfl;have f8:=Qf z0 0;have HF:=DY (DZ ho (DZ z2 (DZ z1 z0)));clear KL ho z2 z1 z0;go_wp2;go_ret;obtain⟨ho,z2,z1,z0⟩:=HF.out;have hg:=Qo w2 b8 0 .nilIface;have hb:Below w2.heap.size w2 (w2.setCell ⟨b8,0,none⟩ .nilIface):=⟨hg.os,hg.tape,hg.output,hg.size,fun j hj=>by
  by_cases e:j=b8
  ·subst e;exact JS z0 rfl
  ·exact hg.block j hj (fun e2=>e (Nd e2))⟩
 exact⟨qa,ca,z3,v,rfl,Qk ho hb,z2.below hb,z1.trans (Q6.of_below hb)⟩
theorem tree1_ok{h:AlC}{w:World}{bs:List UInt8}{k M:Nat}{tree:Int}(hA:AlM h w bs k)(hk:k<11){x:Qv}{q c2 Bx:Nat}(ho:w.ownsRow Bx 146 3 (.slice (some ⟨q,0,none⟩) 1 c2) 1 (VO x))(hT:Ul tree [x] k M):
  Calls prog 176 #[.pointer (some ⟨h.ga,0,none⟩), .int .i64 tree, .slice (some ⟨q,0,none⟩) 1 c2] w fun e w'=>e= .returned (.tuple #[.int .i64 ((k+1:Nat):Int), .nilIface])/\AlM h w' (QR bs (k+1) (QX 2 ((k+1:Nat):Int) (Zi (QH tree true [x])))) (k+1)/\Q6 h w w':=by
 have hmf:∀(fn:Fn) (first cap:Array Value) (w:World),(Instr.makeFunc fn first cap).run prog w= .ok (.func fn first cap) w:=fun _ _ _ _=>rfl
 obtain⟨w1,z6,z0,h3⟩:=DT w (.cells #[.pointer (some ⟨h.ga,0,none⟩)] 123) (.cells #[.int .i64 tree] 3);have h4:w1.heap[w.heap.size+1]?=some (.cells #[.int .i64 tree] 3):=by rw[z6];exact Vi (by simp) _
 have c3:w1.cell? ⟨w.heap.size,0,none⟩=some (.pointer (some ⟨h.ga,0,none⟩)):=Qa h3 0 rfl;have c4:w1.cell? ⟨w.heap.size+1,0,none⟩=some (.int .i64 tree):=Qa h4 0 rfl;have z1:=hA.below z0;have KI:=YB z1;have KR:=right1_ok (w:=w1) (Qk ho z0) hT;have KR:=DY (show Calls prog 228 #[.int .i64 tree, .slice (some ⟨q,0,none⟩) 1 c2] w1 _ from KR);have KF:=DY (fun(W:World) (hW:Below w1.heap.size w1 W)=>Rk (z1.below hW) hk);have KN:=DY (fun(W:World)=>(show Calls prog 105 #[.int .i64 tree, .int .i64 1] W fun e w'=>e= .returned (.int .i64 1)/\Below W.heap.size W w' from by
  have:=Yt tree 1 W;rw[show Yu tree 1=1 from hT.nd] at this
  exact this))
 have KC:=DY (fun(W:World) (hW:Below w1.heap.size w1 W) (b8:Nat) (h8:W.heap[b8]?=some (.cells #[.nilIface] 32))=>treeC1_ok (z1.below hW) hk (Qk (Qk ho z0) hW) hT (b8:=b8) (Qg hW c3) (Qg hW c4) h8);have zi:=DY z0;have zl:=DY z1;have hge:¬(((11-k:Nat):Int)<1):=by omega
 clear hA hk hT z0 h3 h4 z1 ho;generalize (QR bs (k+1) (QX 2 ((k+1:Nat):Int) (Zi (QH tree true [x]))))=nb at*;generalize ((k+1:Nat):Int)=k1 at*;generalize ((11-k:Nat):Int)=lf at*;go_enter func176,ntmps176
 go_upto_region 1 with fail
 rw[show(w.alloc (.cells #[.pointer (some ⟨h.ga,0,none⟩)] 123)).alloc (.cells #[.int .i64 tree] 3)=w1 from z6.symm]
 clear z6;go_wp2_with fail
 refine KI.mono ?_;rintro e w2 ⟨rfl,rfl⟩;clear KI;go_wp2_with fail
 refine KR.out.mono ?_;rintro e w2 ⟨rfl,z3⟩;have d3:=Qg z3 c3;have d4:=Qg z3 c4;have zk:=DY z3;clear z3;go_upto_region 5 with fail
 have zc:=DY (Qb zk (D6 w2.heap.size w2).drew);have e3:=Qg (D6 w2.heap.size w2).drew d3;have e4:=Qg (D6 w2.heap.size w2).drew d4;clear d3 d4;refine wp_region_held_drew (S:=(fun V=>V.cell? ⟨w.heap.size,0,none⟩=some (.pointer (some ⟨h.ga,0,none⟩))/\V.cell? ⟨w.heap.size+1,0,none⟩=some (.int .i64 tree))) (by kernel_rfl) ?_ (fun hHeld=>?_)
 (focus((try dsimp only);(first|with_reducible exact⟨e3,e4⟩|with_reducible exact z4.out|with_reducible exact ze.out)))
 refine QD (.f 0 (.f 2 (.f 3 (.f 4 (.o 1 (.o 5 (.f 6 (.f 7 .e)))))))) ?_
 repeat' ((first|(refine QL (v:=?_) (hv:=?_) (h:=?_);rotate_left;(focus(first|(refine .inr ⟨by rfl,?_⟩;rfl)|(refine .inl ⟨by rfl,?_⟩;intro w hSw;(try dsimp only at hSw);(try simp only[D8,D4,D5]);go_simp;try(with_reducible rfl)))))|(refine Qr (h:=?_))|(((refine Qx (h:=fun K hK=>?_))<;>((try simp only[D8,D4,D5]);go_simp))<;>((first|(go_at_call 172;refine(KF.out _ zc.out).mono ?_;rintro e w5 ⟨rfl,zg⟩;have z2:Below w2.drew.heap.size w2.drew w5:=zg.symm▸(D6 w2.drew.heap.size w2.drew).drew;have z4:=DY (DZ (Qg z2 e3) (Qg z2 e4));have zh:=DY (Qb zc.out z2);clear z2 zg)|(go_at_call 105;refine(KN.out _).mono ?_;rintro e w6 ⟨rfl,z5⟩;have ze:=DY (DZ (Qg z5 z4.out.1) (Qg z5 z4.out.2));have zm:=DY (Qb zh.out z5);clear z5)|skip);refine hK.out _ _ ?_ (fun hHeld=>?_);(focus((try dsimp only);(first|with_reducible exact⟨e3,e4⟩|with_reducible exact z4.out|with_reducible exact ze.out)));clear hK K)))<;>(try simp only[Act.put,Nc,Nf,Ng]))
 all_goals (refine Qu ?_;refine wpAnyH_done (by kernel_rfl) ?_ _)
 clear e3 e4;obtain⟨w7,zb,z9,h8⟩:=DS w6 (.cells #[.nilIface] 32);have z7:=DY (Qb zm z9);have K7:=KC.out w7 z7 w6.heap.size h8;have H8:=DY h8;have zj:=DY (zl.out.below z7);clear z9 h8;go_upto_region 8 with fail
 rw[<-zb];clear zb;go_wp2_with fail
 refine K7.mono ?_;rintro e w8 ⟨qa,ca,key,v,rfl,zd,za,z8⟩;have zf:=zj.out.keep z8 H8.out (by decide) (by decide);have e8:w8.cell? ⟨w6.heap.size,0,none⟩=some .nilIface:=Qa zf 0 rfl;have u2:=QW zd 2 _ rfl;have HF:=DY (DZ za z8);clear K7 zd za z8 zf;go_wp2_with fail
 refine wp_loop_rounds 1 ?_;rw[rounds_succ];go_wp2;go_ret2
 exact⟨rfl,HF.out.1,(Q6.of_below (Qb zi z7)).trans HF.out.2⟩
theorem bitmaps9(w:World):Calls prog 70 #[.int .i64 9] w fun e w'=>e= .returned (.int .i64 1)/\w=w':=by
 go_enter func70,ntmps70
 go_wp2;go_ret;exact⟨rfl,rfl⟩
theorem bitmaps12(w:World):Calls prog 70 #[.int .i64 12] w fun e w'=>e= .returned (.int .i64 1)/\w=w':=by
 go_enter func70,ntmps70
 go_wp2;go_ret;exact⟨rfl,rfl⟩
theorem sum_ok(m:Nat)(hm:m<=100)(q c:Nat)(w:World)(h:∀j,j<m->w.cell? ⟨q,j,none⟩=some (.int .i64 1)):Calls prog 106 #[.slice (some ⟨q,0,none⟩) m c] w fun e w'=>e= .returned (.int .i64 m)/\Below w.heap.size w w':=by
 have HC:=DY h;clear h;go_enter func106,ntmps106
 go_wp2_with fail
 go_loopw [3,8] (fun u i wr=>∃(k:Nat),k<=m/\u= .int .i64 k/\i= .int .i64 k/\Hid (Below w.heap.size w wr)) (fun _ i _=>m-(intOf i).toNat)
 case atStart=>exact⟨0,by omega,rfl,rfl,DY (D6 _ _)⟩
 case round=>
  obtain⟨k,hk,rfl,rfl,HH⟩:=hrel;by_cases hlt:k<m
  ·have c0:=Qg HH (HC.out k hlt);go_wp2_with fail
   go_roundw
   case rel=>exact⟨k+1,by omega,by go_num,by go_num,HH⟩
   case measure=>simp[intOf];omega
  ·obtain rfl:k=m:=by omega
   go_wp2;go_ret;exact⟨rfl,HH.out⟩
theorem pref0:Yk RY=[0,0,0,0,1,0,0,0,0]:=by decide+kernel
theorem pok0:Xx RY=true:=by decide+kernel
theorem nod41:Yu 4 1=1:=by decide+kernel
theorem nod50:Yu 5 0=1:=by decide+kernel
theorem nod21:Yu 2 1=1:=by decide+kernel
def P0M(W:World)(B:Nat)(A:Option Addr)(c:Nat):Prop:=Qt W B (.slice A 1 c) RY.devs
theorem p0check(A:Option Addr)(c B:Nat)(w:World)(h:P0M w B A c):Calls prog 12 #[.agg #[.int .i64 0, .int .i64 0, .int .i64 1, .int .i64 9, .slice A 1 c]] w fun e w'=>e= .returned (.int .i64 0)/\Below w.heap.size w w':=by
 refine(U6 RY A c w (by decide) (by decide) (by decide) h.devs).mono ?_;rintro e w' ⟨r,rfl,hr,hb⟩;rw[pok0] at hr;have:=of_decide_eq_true hr;subst this;exact⟨rfl,hb⟩
theorem p0refs(A:Option Addr)(c B:Nat)(w:World)(h:P0M w B A c):Calls prog 31 #[.agg #[.int .i64 0, .int .i64 0, .int .i64 1, .int .i64 9, .slice A 1 c]] w fun e w'=>∃q c',e= .returned (.slice (some ⟨q,0,none⟩) 9 c')/\w'.ownsRow w.heap.size 3 1 (.slice (some ⟨q,0,none⟩) 9 c') 9 (iv [0,0,0,0,1,0,0,0,0])/\Below w.heap.size w w':=by
 refine(O7 RY A c w (by decide) (by decide) (by decide) h.devs).mono ?_;rintro e w' ⟨A2,c2,rfl,ho,hb⟩;rw[pref0] at ho ⊢;obtain⟨q,rfl⟩:=Zj ho (by decide);exact⟨q,c2,rfl,ho,hb⟩
theorem often_ok(A:Option Addr)(c B:Nat)(w:World)(h:P0M w B A c):Calls prog 107 #[.agg #[.int .i64 0, .int .i64 0, .int .i64 1, .int .i64 9, .slice A 1 c]] w fun e w'=>e= .returned (.int .i64 0)/\Below w.heap.size w w':=by
 obtain⟨w1,z1,z0,h1⟩:=DS w (.cells #[.int .i64 0, .int .i64 0, .int .i64 1, .int .i64 9, .slice A 1 c] 28);obtain⟨c0,c1,c2,c3,c4⟩:=DX h1;have KR:=p0refs A c B w1 (h.keep z0);have z3:=DY z0;clear h z0 h1;go_enter func107,ntmps107
 go_upto_region 1 with fail
 rw[<-z1];clear z1;go_wp2_with fail
 refine KR.mono ?_;rintro e w2 ⟨q,cq,rfl,ho,z2⟩;have HO:=DY (fun(k:Nat) (hk:k<9)=>show∃v:Int,w2.cell? ⟨q,k,none⟩=some (.int .i64 v)/\decide (3<=v)=false from by
  rcases(show k=0∨k=1∨k=2∨k=3∨k=4∨k=5∨k=6∨k=7∨k=8 by omega) with rfl|rfl|rfl|rfl|rfl|rfl|rfl|rfl|rfl<;>exact⟨_,QW ho _ _ rfl,rfl⟩)
 have z4:=DY (Qb z3 z2);clear KR ho z2 c0 c1 c2 c3 c4;go_wp2_with fail
 go_loopw [3,9] (fun u i wr=>∃(k:Nat),k<=9/\u= .int .i64 0/\i= .int .i64 k/\Hid (Below w2.heap.size w2 wr)) (fun _ i _=>9-(intOf i).toNat)
 case atStart=>exact⟨0,by omega,rfl,rfl,DY (D6 _ _)⟩
 case round=>
  obtain⟨k,hk,rfl,rfl,HH⟩:=hrel;by_cases hlt:k<9
  ·obtain⟨v,cv',hv⟩:=HO.out k hlt;have cv:=Qg HH cv';clear cv';go_wp2_with fail
   go_roundw
   case rel=>exact⟨k+1,by omega,rfl,by go_num,HH⟩
   case measure=>simp[intOf];omega
  ·obtain rfl:k=9:=by omega
   go_wp2;go_ret;exact⟨rfl,Qb z4 HH⟩
theorem base_ok(A:Option Addr)(c B:Nat)(w:World)(h:P0M w B A c):Calls prog 57 #[.agg #[.int .i64 0, .int .i64 0, .int .i64 1, .int .i64 9, .slice A 1 c]] w fun e w'=>e= .returned (.int .i64 7)/\Below w.heap.size w w':=by
 obtain⟨js,zk,zm,zn,zj⟩:=info_parts Tryz.infoIntL;obtain⟨w1,zc,z6,h1⟩:=DS w (.cells #[.int .i64 0, .int .i64 0, .int .i64 1, .int .i64 9, .slice A 1 c] 28);have z5:Hid (∀V,Below w1.heap.size w1 V->V.cell? ⟨w.heap.size,0,none⟩=some (.int .i64 0)/\V.cell? ⟨w.heap.size,1,none⟩=some (.int .i64 0)/\V.cell? ⟨w.heap.size,2,none⟩=some (.int .i64 1)/\V.cell? ⟨w.heap.size,3,none⟩=some (.int .i64 9)/\V.cell? ⟨w.heap.size,4,none⟩=some (.slice A 1 c)):=DY fun V hV=>⟨Qa (Qe h1 hV) 0 rfl,Qa (Qe h1 hV) 1 rfl,Qa (Qe h1 hV) 2 rfl,Qa (Qe h1 hV) 3 rfl,Qa (Qe h1 hV) 4 rfl⟩
 have KP:=p0check A c B w1 (h.keep z6);have KO:=DY (fun(W:World) (hW:Below w1.heap.size w1 W)=>often_ok A c B W ((h.keep z6).keep hW));have KN:=DY (fun(t n:Int) (W:World) (hn:Yu t n=1)=>(show Calls prog 105 #[.int .i64 t, .int .i64 n] W fun e w'=>e= .returned (.int .i64 1)/\Below W.heap.size W w' from by
  have:=Yt t n W;rw[hn] at this;exact this))
 have HP:=DY (show P0M w1 B A c from h.keep z6);obtain⟨c0,c1,c2,c3,c4⟩:=z5.out w1 (D6 _ _);have zl:=DY z6;clear h z6 h1;go_enter func57,ntmps57
 go_upto_region 1 with fail
 rw[<-zc];clear zc;go_wp2_with fail
 refine KP.mono ?_;rintro e w2 ⟨rfl,z8⟩;obtain⟨d0,d1,d2,d3,d4⟩:=z5.out w2 z8;obtain⟨us,za,ho,z3⟩:=HP.out.keep z8;obtain⟨⟨dx,u⟩,rfl⟩:∃x,us=[x]:=by
  match us,za with
  |[x],_=>exact⟨x,rfl⟩
 have zp:dx=⟨1,0,0,0,[⟨3,4,5⟩]⟩:=by simpa[RY] using za
 subst zp;have ho:w2.ownsRow B 49 5 (.slice A 1 c) 1 (dv [(⟨1,0,0,0,[⟨3,4,5⟩]⟩,u)]):=ho;obtain⟨q,rfl⟩:=Zj ho (by omega);obtain⟨Am,cm,rfl⟩:=QI (z3 _ _ (Lf.2 rfl));have y0:=QW ho 0 _ rfl;have y1:=QW ho 1 _ rfl;have y2:=QW ho 2 _ rfl;have y3:=QW ho 3 _ rfl;have y4:=QW ho 4 (.slice Am 1 cm) rfl;have zo:=DY z8;clear KP z8 ho z3 za c0 c1 c2 c3 c4;go_wp2_with fail
 refine wp_loop_rounds 2 ?_;rw[rounds_succ];obtain⟨w3,zb,zf,h3⟩:=DS w2 (.cells #[.int .i64 1, .int .i64 0, .int .i64 0, .int .i64 0, .slice Am 1 cm] 49);have z4:=Qa h3 4 rfl;have zs:=DY (Qb zo zf);have K3:=KN.out 2 1 w3 nod21;clear zf h3;go_upto_region 7 with fail
 rw[<-zb];clear zb y0 y1 y2 y3 y4;go_wp2_with fail
 refine K3.mono ?_;rintro e w4 ⟨rfl,zi⟩;have zt:=DY (Qb zs zi);clear K3 zi z4;go_upto_region 8 with(at_builtin;refine Qq _ rfl (.tmp 17) (.tmp 22) _ rfl w4.heap.size 1 3 js _ 8 underlying68 zk zm zn zj rfl (by decide) (.slice none 0 0) 0 [] rfl (Nb _ _ _ _) _ _ 1 1 [.int .i64 1] rfl rfl (Qh.new w4 [.int .i64 1] 3 (0,0)) (by simp[Value.oneCell']) (by simp only[maxLen];omega) (by omega) (by simp) ?_;intro A7 c7 w7 z1 zq zd _;have zh:Hid (w7.ownsRow w4.heap.size 3 1 (.slice A7 1 c7) 1 [.int .i64 1]):=DY z1;have z9:=DY ((Qd w4 (.cells #[.int .i64 1] 3)).trans zd);clear z1 zq zd)
 obtain⟨q7,rfl⟩:=Zj zh (by omega);have z2:=DY (Qb zt z9);obtain⟨e0,e1,e2,e3,e4⟩:=z5.out w7 z2;clear d0 d1 d2 d3 d4;go_wp2_with fail
 rw[rounds_succ];have K9:=bitmaps9 w7;go_wp2_with fail
 refine K9.mono ?_;rintro e w8 ⟨rfl,rfl⟩;clear K9;go_upto_region 10 with fail
 have z0:=DY (D6 w7.heap.size w7).drew;have z7:=DY (z5.out _ (Qb z2 z0));have zr:Hid (∀V,Below w7.heap.size w7 V->V.cell? ⟨q7,0,none⟩=some (.int .i64 1)):=DY fun V hV=>Qg hV (QW zh 0 _ rfl)
 clear e0 e1 e2 e3 e4;refine wp_region_held_drew (S:=(fun V=>V.cell? ⟨w.heap.size,0,none⟩=some (.int .i64 0)/\V.cell? ⟨w.heap.size,1,none⟩=some (.int .i64 0)/\V.cell? ⟨w.heap.size,2,none⟩=some (.int .i64 1)/\V.cell? ⟨w.heap.size,3,none⟩=some (.int .i64 9)/\V.cell? ⟨w.heap.size,4,none⟩=some (.slice (some ⟨q,0,none⟩) 1 c))) (by kernel_rfl) ?_ (fun hHeld=>?_)
 (focus((try dsimp only);(first|with_reducible exact z7.out|with_reducible exact ze.out)))
 refine QD (.f 0 (.f 1 (.f 2 (.f 4 (.f 5 (.f 6 (.f 8 (.f 10 (.f 11 (.f 13 (.o 3 (.o 7 (.o 9 (.o 12 (.o 14 (.o 15 (.o 16 (.o 17 (.f 18 .e))))))))))))))))))) ?_
 repeat' ((first|(refine QL (v:=?_) (hv:=?_) (h:=?_);rotate_left;(focus(first|(refine .inr ⟨by rfl,?_⟩;rfl)|(refine .inl ⟨by rfl,?_⟩;intro w hSw;(try dsimp only at hSw);(try simp only[D8,D4,D5]);go_simp;try(with_reducible rfl)))))|(refine Qr (h:=?_))|(((refine Qx (h:=fun K hK=>?_))<;>((try simp only[D8,D4,List.getElem_cons_zero]);go_simp))<;>((first|(go_at_call 105;refine(KN.out _ _ _ ?_).mono ?_;(focus(decide+kernel));rintro e wN ⟨rfl,hb⟩;have z0:=DY (Qb z0.out hb);have z7:=DY (z5.out _ (Qb z2.out z0.out));have zg:=DY (Qb z0.out (Qd wN (.cells #[.int .i64 1, .int .i64 1, .int .i64 1, .int .i64 1, .int .i64 1, .int .i64 1, .int .i64 1] 3)));have ze:=DY (z5.out _ (Qb z2.out zg.out));clear hb)|(go_at_call 106;refine(sum_ok _ (by omega) _ _ _ ?_).mono ?_;(focus(first|(intro j hj;obtain rfl:j=0:=(by omega);exact zr.out _ z0.out)|(intro j hj;rcases(show j=0∨j=1∨j=2∨j=3∨j=4∨j=5∨j=6 by omega) with rfl|rfl|rfl|rfl|rfl|rfl|rfl<;>exact Qa (heap_alloc_new _ _) _ rfl)));rintro e wS ⟨rfl,hb⟩;have z0:=DY (show Below w7.heap.size w7 wS from by first|exact Qb z0.out hb|exact Qb zg.out hb);have z7:=DY (z5.out _ (Qb z2.out z0.out));clear hb)|(go_at_call 107;refine(KO.out _ (Qb z2.out z0.out)).mono ?_;rintro e wN ⟨rfl,hb⟩;have z0:=DY (Qb z0.out hb);have z7:=DY (z5.out _ (Qb z2.out z0.out));clear hb)|skip);refine hK.out _ _ ?_ (fun hHeld=>?_);(focus((try dsimp only);(first|with_reducible exact z7.out|with_reducible exact ze.out)));clear hK K)))<;>(try simp only[Act.put,Nc,Nf,Ng]))
 all_goals (refine Qu ?_;refine wpAnyH_done (by kernel_rfl) ?_ _)
 go_wp2;go_ret;exact⟨rfl,Qb zl (Qb z2 z0)⟩
theorem need_ok(A:Option Addr)(c B:Nat)(w:World)(h:P0M w B A c):Calls prog 20 #[.agg #[.int .i64 0, .int .i64 0, .int .i64 1, .int .i64 9, .slice A 1 c]] w fun e w'=>e= .returned (.int .i64 10)/\Below w.heap.size w w':=by
 obtain⟨w1,z1,z0,h1⟩:=DS w (.cells #[.int .i64 0, .int .i64 0, .int .i64 1, .int .i64 9, .slice A 1 c] 28);obtain⟨c0,c1,c2,c3,c4⟩:=DX h1;have KR:=base_ok A c B w1 (h.keep z0);have z3:=DY z0;clear h z0 h1;go_enter func20,ntmps20
 go_upto_region 1 with fail
 rw[<-z1];clear z1;go_wp2_with fail
 refine KR.mono ?_;rintro e w2 ⟨rfl,z2⟩;have z4:=DY (Qb z3 z2);clear KR z2 c0 c1 c2 c3 c4;go_wp2;go_ret;exact⟨rfl,z4.out⟩
theorem fits_ok(A:Option Addr)(c B:Nat)(w:World)(h:P0M w B A c):Calls prog 60 #[.agg #[.int .i64 0, .int .i64 0, .int .i64 1, .int .i64 9, .slice A 1 c], .int .i64 12] w fun e w'=>e= .returned (.bool true)/\Below w.heap.size w w':=by
 obtain⟨w1,z1,z0,h1⟩:=DS w (.cells #[.int .i64 0, .int .i64 0, .int .i64 1, .int .i64 9, .slice A 1 c] 28);obtain⟨c0,c1,c2,c3,c4⟩:=DX h1;have KR:=need_ok A c B w1 (h.keep z0);have z3:=DY z0;clear h z0 h1;go_enter func60,ntmps60
 go_upto_region 1 with fail
 rw[<-z1];clear z1;go_wp2_with fail
 refine KR.mono ?_;rintro e w2 ⟨rfl,z2⟩;have z4:=DY (Qb z3 z2);clear KR z2 c0 c1 c2 c3 c4;go_wp2;go_ret;exact⟨rfl,z4.out⟩
end Go.Proofs.YtijcgllddnpmhaaGreatDoor
