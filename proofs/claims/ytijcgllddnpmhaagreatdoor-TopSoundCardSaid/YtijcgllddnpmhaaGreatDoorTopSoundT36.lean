/- TopSound: lemmas, part 36. -/
import Derived.Test.YtijcgllddnpmhaaGreatDoorTopSoundT35
import Derived.Test.YtijcgllddnpmhaaGreatDoorTopSoundT34
set_option maxRecDepth 100000
set_option maxHeartbeats 16000000
set_option linter.all false
namespace Go.Proofs.YtijcgllddnpmhaaGreatDoor
open Go.RowKit Go.Proofs.Tryz
theorem JD{w w':World}{row:Option Nat}(hb:Below w.heap.size w w'):w.grownBy w' row:=⟨hb.os,hb.tape,hb.output,hb.size,fun k hk _=>hb.block k hk⟩
theorem Tryz.infoSlotL:(prog.info? 148).map (fun i=>(i.zero,i.size,i.bytes))=some (some (.agg #[.int .i64 0, .int .i64 0, .int .i64 0]),3,24):=by kernel_rfl
theorem meta1_ok{w:World}{b10:Nat}(x0 x1 x2:Int)(h:w.heap[b10]?=some (.cells #[.slice none 0 0] 154)):
  Calls prog 178 #[.agg #[.int .i64 x0, .int .i64 x1, .int .i64 x2], .pointer (some ⟨b10,0,none⟩)] w fun e w'=>∃q c,e= .returned (.tuple #[])/\w'.heap[b10]?=some (.cells #[.slice (some ⟨q,0,none⟩) 1 c] 154)/\w'.ownsRow w.heap.size 148 3 (.slice (some ⟨q,0,none⟩) 1 c) 1 [.int .i64 x0, .int .i64 x1, .int .i64 x2]/\w.grownBy w' (some b10):=by
 obtain⟨es,zb,zd,z9,zc⟩:=info_parts Tryz.infoSlotL;obtain⟨w1,z5,z4,h1⟩:=DS w (.cells #[.int .i64 x0, .int .i64 x1, .int .i64 x2] 148);have z3:=Qe h z4;have c0:w1.cell? ⟨w.heap.size,0,none⟩=some (.int .i64 x0):=Qa h1 0 rfl;have c1:w1.cell? ⟨w.heap.size,1,none⟩=some (.int .i64 x1):=Qa h1 1 rfl;have c2:w1.cell? ⟨w.heap.size,2,none⟩=some (.int .i64 x2):=Qa h1 2 rfl;have c10:w1.cell? ⟨b10,0,none⟩=some (.slice none 0 0):=Qa z3 0 rfl;have z8:=DY z3;have z6:=DY z4;clear h z4 h1 z3;go_enter func178,ntmps178
 go_upto_region 1 with fail
 rw[<-z5];clear z5;go_wp2_with (at_builtin;refine Qq _ rfl (.tmp 3) (.tmp 5) _ rfl w1.heap.size 3 148 es _ 24 underlying154 zb zd z9 zc rfl (by decide) (.slice none 0 0) 0 [] rfl (Nb _ _ _ _) _ _ 1 1 [.int .i64 x0, .int .i64 x1, .int .i64 x2] rfl rfl (Qh.new w1 [.int .i64 x0, .int .i64 x1, .int .i64 x2] 148 (0,0)) (by simp[Value.oneCell']) (by simp only[maxLen];omega) (by omega) (by simp) ?_;intro A7 c7 w7 z1 za z7 _;have z2:=(Qd w1 (.cells #[.int .i64 x0, .int .i64 x1, .int .i64 x2] 148)).trans z7;have z0:=Qe z8.out z2;have c107:=Qa z0 0 rfl;have f107:=Qf z0 0;have HF:=DY (DZ (show w7.ownsRow w1.heap.size 148 3 (.slice A7 1 c7) 1 [.int .i64 x0, .int .i64 x1, .int .i64 x2] from z1) (DZ z2 z0));clear z1 za z7 z2 z0)
 go_end0
 obtain⟨ho,hb,z0⟩:=HF.out;obtain⟨q,rfl⟩:=Zj ho (by omega);have hg:=Qo w7 b10 0 (.slice (some ⟨q,0,none⟩) 1 c7);refine⟨q,c7,rfl,?_,QO (ho.kept hg (.inr (Qi z0 (by decide) ho).symm)) z6.out.size,QC (JD (Qb z6.out hb)) hg⟩;rw[heap_setCell_same w7 b10 0 _ _ _ z0]
 rfl
theorem data1_ok{w:World}{b10:Nat}(x0 x1 x2:Int)(h0:(Lit.int .i64 x0).wf=true)(h1':(Lit.int .i64 x1).wf=true)(h2':(Lit.int .i64 x2).wf=true)(h:w.heap[b10]?=some (.cells #[.slice none 0 0] 137)):
  Calls prog 174 #[.agg #[.int .i64 x0, .int .i64 x1, .int .i64 x2], .pointer (some ⟨b10,0,none⟩)] w fun e w'=>∃q c,e= .returned (.tuple #[])/\w'.heap[b10]?=some (.cells #[.slice (some ⟨q,0,none⟩) 1 c] 137)/\w'.ownsRow w.heap.size 146 3 (.slice (some ⟨q,0,none⟩) 1 c) 1 (VO ⟨0,XF (YV x0 x1 x2),0⟩)/\w.grownBy w' (some b10):=by
 obtain⟨es,zm,zn,zl,zj⟩:=info_parts Tryz.infoEntL;obtain⟨w1,z6⟩:=DR (w.alloc (.cells #[.int .i64 x0, .int .i64 x1, .int .i64 x2] 148));have z8:Below w.heap.size w w1.drew:=by rw[z6];exact(Qd w _).drew
 have h1:w1.drew.heap[w.heap.size]?=some (.cells #[.int .i64 x0, .int .i64 x1, .int .i64 x2] 148):=by rw[z6];exact heap_alloc_new w _
 have z9:=Qe h z8;have c0:w1.drew.cell? ⟨w.heap.size,0,none⟩=some (.int .i64 x0):=Qa h1 0 rfl;have c1:w1.drew.cell? ⟨w.heap.size,1,none⟩=some (.int .i64 x1):=Qa h1 1 rfl;have c2:w1.drew.cell? ⟨w.heap.size,2,none⟩=some (.int .i64 x2):=Qa h1 2 rfl;have c10:w1.drew.cell? ⟨b10,0,none⟩=some (.slice none 0 0):=Qa z9 0 rfl;have zf:=DY z9;have zk:=DY z8;have zg:=DY h1;have zh:=DY (show w.heap.size≠b10 from by have:=(D0.1 h).1;omega);have KV:=DY (fun(W:World)=>G3 x0 x1 x2 W h0 h1' h2');clear h z8 h1 z9 h0 h1' h2';unfold VO;dsimp only;generalize XF (YV x0 x1 x2)=sv at*;go_enter func174,ntmps174
 go_upto_region 1 with fail
 rw[<-z6];clear z6;refine wp_region_held_drew (S:=(fun V=>V.cell? ⟨w.heap.size,0,none⟩=some (.int .i64 x0)/\V.cell? ⟨w.heap.size,1,none⟩=some (.int .i64 x1)/\V.cell? ⟨w.heap.size,2,none⟩=some (.int .i64 x2))) (by kernel_rfl) ?_ (fun hHeld=>?_)
 (focus((try dsimp only);(first|with_reducible exact⟨c0,c1,c2⟩|with_reducible exact z3.out|with_reducible exact zc.out|with_reducible exact zb.out|with_reducible exact ze.out)))
 refine QD (.f 3 (.u 0 (.t 1 (.f 2 (.o 4 (.f 5 (.o 6 (.r 7 (.o 8 .e)))))) 4 (.o 1 (.f 2 (.f 5 (.o 6 (.r 7 (.o 8 .e))))))) 1 (.f 2 (.t 0 (.o 4 (.f 5 (.o 6 (.r 7 (.o 8 .e))))) 4 (.f 5 (.t 0 (.o 6 (.r 7 (.o 8 .e))) 6 (.o 0 (.r 7 (.o 8 .e))))))) 4 (.t 0 (.o 1 (.f 2 (.f 5 (.o 6 (.r 7 (.o 8 .e)))))) 1 (.f 2 (.f 5 (.t 0 (.o 6 (.r 7 (.o 8 .e))) 6 (.o 0 (.r 7 (.o 8 .e))))))))) ?_
 repeat' ((first|(refine QL (v:=?_) (hv:=?_) (h:=?_);rotate_left;(focus(first|(refine .inr ⟨by rfl,?_⟩;rfl)|(refine .inl ⟨by rfl,?_⟩;intro w hSw;(try dsimp only at hSw);(try simp only[D8,D4,D5]);go_simp;try(with_reducible rfl)))))|(refine Qr (h:=?_))|((first|((first|refine Qx (h:=fun K hK=>?_)|refine Zt (h:=fun K hK=>?_) (h':=fun K hK=>?_)|refine planH_three (h:=fun K hK=>?_) (h':=fun K hK=>?_) (h'':=fun K hK=>?_))<;>((try simp only[D8,D4,D5]);go_simp))|(refine Q0 (h:=fun K hK=>?_)))<;>((first|(go_at_call 175;refine(KV.out _).mono ?_;rintro e w2 ⟨rfl,z4⟩;have H2:=DY (Qe zf.out z4);have zi:=DY (Qe zg.out z4);have k2:w2.cell? ⟨b10,0,none⟩=some (.slice none 0 0):=Qa H2.out 0 rfl;have k3:=Qg (Qd w2 (.cells #[.int .i64 0, .string ⟨sv.toArray⟩, .int .i64 0] 146)) k2;have z3:=DY (DZ (Qg z4 c0) (DZ (Qg z4 c1) (Qg z4 c2)));have zc:=DY (DZ (Qg (Qd w2 (.cells #[.int .i64 0, .string ⟨sv.toArray⟩, .int .i64 0] 146)) z3.out.1) (DZ (Qg (Qd w2 (.cells #[.int .i64 0, .string ⟨sv.toArray⟩, .int .i64 0] 146)) z3.out.2.1) (Qg (Qd w2 (.cells #[.int .i64 0, .string ⟨sv.toArray⟩, .int .i64 0] 146)) z3.out.2.2)));have zd:=DY (Qb zk.out z4);clear z4)|(refine Zg (.tmp 3) (.tmp 9) _ rfl w2.heap.size 3 146 es _ 32 underlying137 zm zn zl zj rfl (by decide) (.slice none 0 0) 0 [] rfl (Nb _ _ _ _) _ _ 1 1 [.int .i64 0, .string ⟨sv.toArray⟩, .int .i64 0] rfl rfl (Qh.new w2 [.int .i64 0, .string ⟨sv.toArray⟩, .int .i64 0] 146 (0,0)) (by simp[Value.oneCell']) (by simp only[maxLen];omega) (by omega) (by simp) ?_;intro A7 c7 w7 z2 z5;have za:Below w2.heap.size (w2.alloc (.cells #[.int .i64 0, .string ⟨sv.toArray⟩, .int .i64 0] 146)) w7:=⟨z5.os,z5.tape,z5.output,z5.size,fun k hk=>z5.block k (Nh hk (Qd w2 _).size) (by simp[Value.ownBlock])⟩;have z1:=(Qd w2 (.cells #[.int .i64 0, .string ⟨sv.toArray⟩, .int .i64 0] 146)).trans za;have z0:=Qe H2.out z1;have c107:=Qa z0 0 rfl;have f107:=Qf z0 0;have zb:=DY (DZ (Qg z1 z3.out.1) (DZ (Qg z1 z3.out.2.1) (Qg z1 z3.out.2.2)));have z7:=YJ (Qe zi.out z1) (Qo w7 b10 0 (.slice A7 1 c7)) zh.out;have ze:Hid ((w7.setCell ⟨b10,0,none⟩ (.slice A7 1 c7)).cell? ⟨w.heap.size,0,none⟩=some (.int .i64 x0)/\(w7.setCell ⟨b10,0,none⟩ (.slice A7 1 c7)).cell? ⟨w.heap.size,1,none⟩=some (.int .i64 x1)/\(w7.setCell ⟨b10,0,none⟩ (.slice A7 1 c7)).cell? ⟨w.heap.size,2,none⟩=some (.int .i64 x2)):=DY ⟨Qa z7 0 rfl,Qa z7 1 rfl,Qa z7 2 rfl⟩;have HF:=DY (DZ (show w7.ownsRow w2.heap.size 146 3 (.slice A7 1 c7) 1 [.int .i64 0, .string ⟨sv.toArray⟩, .int .i64 0] from z2) (DZ z1 z0));clear z2 z5 za z1 z0 z7)|skip);refine hK.out _ _ ?_ (fun hHeld=>?_);(focus((try dsimp only);(first|with_reducible exact⟨c0,c1,c2⟩|with_reducible exact z3.out|with_reducible exact zc.out|with_reducible exact zb.out|with_reducible exact ze.out)));clear hK K)))<;>(try simp only[Act.put,Nc,Nf,Ng]))
 all_goals (refine Qu ?_;refine wpAnyH_done (by kernel_rfl) ?_ _)
 all_goals
  go_wp2;go_end0
  obtain⟨ho,hb,z0⟩:=HF.out;obtain⟨q,rfl⟩:=Zj ho (by omega);have hg:=Qo w7 b10 0 (.slice (some ⟨q,0,none⟩) 1 c7);refine⟨q,c7,rfl,?_,QO (ho.kept hg (.inr (Qi z0 (by decide) ho).symm)) zd.out.size,QC (JD (Qb zd.out hb)) hg⟩;rw[heap_setCell_same w7 b10 0 _ _ _ z0]
  rfl
def Rf(a b c:Int):List Value:=[.int .i64 a, .int .i64 b, .int .i64 c]
theorem AlM.kept_b{h:AlC}{w w':World}{bs:List UInt8}{k b:Nat}{t:TypeId}{cs:Array Value}{fz:Nat×Nat}(hA:AlM h w bs k)(hg:w.grownBy w' (some b))(hb:w.heap[b]?=some (.cells cs t fz))(h1:t≠217)(h2:t≠3)(h3:t≠63)(h4:t≠5):AlM h w' bs k:=by
 refine⟨YJ hA.box hg ?_,hA.row.kept hg (.inr (Qi hb h2 hA.row).symm),hA.img.kept hg ?_ (.inr (Qi hb h4 hA.img.2.1).symm),hA.len,hA.hB⟩
 ·rintro e;have hx:=hA.box;rw[e,hb] at hx
  injection hx with hx
  injection hx with _ hx _
  exact h1 hx
 ·intro e;have e:=Nd e;have hx:=hA.img.1;unfold Boxed at hx;rw[<-e,hb] at hx
  injection hx with hx
  injection hx with _ hx _
  exact h3 hx
theorem playD_ok{h:AlC}{w:World}{bs:List UInt8}{k:Nat}(hA:AlM h w bs k)(hk:k<11){l:List Int}{A1:Option Addr}{c1 Bq b10:Nat}(hl:Z3 w Bq (.slice A1 1 c1) [l])(hm:l.length*8<=reachBytes)(he:Uj l=0)(hs:Yb 3 ((k+1:Nat):Int) (Z2 l)=0)(hsl:(QX 3 ((k+1:Nat):Int) (Z2 l)).length=256)
  (hz:(Lit.int .i64 (Q9 l)).wf=true) (hf:(Lit.int .i64 (Zp l)).wf=true) (h10:w.heap[b10]?=some (.cells #[.slice none 0 0] 137)):
  Calls prog 173 #[.pointer (some ⟨h.ga,0,none⟩), .slice A1 1 c1, .func (.func 174) #[] #[.pointer (some ⟨b10,0,none⟩)]] w fun e w'=>∃q c w2,e= .returned .nilIface/\AlM h w' (QR bs (k+1) (QX 3 ((k+1:Nat):Int) (Z2 l))) (k+1)/\w'.heap[b10]?=some (.cells #[.slice (some ⟨q,0,none⟩) 1 c] 137)/\w'.ownsRow w.heap.size 146 3 (.slice (some ⟨q,0,none⟩) 1 c) 1 (VO ⟨0,XF (YV ((k+1:Nat):Int) (Q9 l) (Zp l)),0⟩)/\Q6 h w w2/\w2.grownBy w' (some b10):=by
 obtain⟨vs,z1,zh,zf⟩:=hl;obtain⟨u,hu,z6⟩:=zf 0 l rfl;obtain⟨q1,rfl⟩:=Zj z1 (by decide);obtain⟨Al,cl,rfl⟩:=QI z6;have c0:=QW z1 0 _ hu;have KB:=bput_any Al cl l w hm (Qh.of_own z6);rw[he] at KB;have KL:Hid (∀(W:World),AlM h W bs k->∀(A3:Option Addr) (c3:Nat),(∀U,Q6 h W U->Qh U U.heap.size A3 (bv (Z2 l)))->Calls prog 180 #[.pointer (some ⟨h.ga,0,none⟩), .int .i64 3, .slice A3 (Z2 l).length c3] W fun e w'=>e= .returned (.tuple #[.int .i64 ((k+1:Nat):Int), .nilIface])/\AlM h w' (QR bs (k+1) (QX 3 ((k+1:Nat):Int) (Z2 l))) (k+1)/\Q6 h W w'):=DY fun W hW A3 c3 hr=>UE hW hk 3 (by decide) A3 c3 _ hs hsl hr
 have KF:Hid (∀W,W.ownsRow Bq 3 1 (.slice Al l.length cl) l.length (iv l)->Calls prog 194 #[.slice Al l.length cl] W fun e w'=>e= .returned (.tuple #[.int .i64 (Q9 l), .int .i64 (Zp l)])/\W=w'):=DY fun W hW=>Ki Al cl l W _ hm (Qh.of_own hW)
 have KD:Hid (∀W,W.heap[b10]?=some (.cells #[.slice none 0 0] 137)->Calls prog 174 #[.agg #[.int .i64 ((k+1:Nat):Int), .int .i64 (Q9 l), .int .i64 (Zp l)], .pointer (some ⟨b10,0,none⟩)] W fun e w'=>∃q c,e= .returned (.tuple #[])/\w'.heap[b10]?=some (.cells #[.slice (some ⟨q,0,none⟩) 1 c] 137)/\w'.ownsRow W.heap.size 146 3 (.slice (some ⟨q,0,none⟩) 1 c) 1 (VO ⟨0,XF (YV ((k+1:Nat):Int) (Q9 l) (Zp l)),0⟩)/\W.grownBy w' (some b10)):=DY fun W hb=>data1_ok ((k+1:Nat):Int) (Q9 l) (Zp l) (by rw[Ge];omega) hz hf hb
 have HA:=DY hA;have zj:=DY hA.ib;have zg:=DY z6;have zd:=DY h10;clear hA hk hm he hs hsl hz hf h10 z1 zh zf hu z6;generalize (QR bs (k+1) (QX 3 ((k+1:Nat):Int) (Z2 l)))=nb at*;generalize (VO ⟨0,XF (YV ((k+1:Nat):Int) (Q9 l) (Zp l)),0⟩)=rw0 at*;generalize ((k+1:Nat):Int)=k1 at*;generalize Q9 l=zn at*;generalize Zp l=fi at*;generalize Z2 l=pv at*;go_enter func173,ntmps173
 go_wp2_with fail
 refine wp_loop_rounds 2 ?_;rw[rounds_succ];go_wp2_with fail
 refine KB.mono ?_;rintro e w2 ⟨A2,c2,rfl,zc,z8⟩;rw[Qm] at zc ⊢;have z7:=HA.out.below z8;have K2:=KL.out w2 z7 A2 c2 (fun U hU=>Qh.of_own (z7.pay zj.out hU zc (by decide)));have z5:=DY z8;have z9:=DY z7;clear KB zc z8 z7 c0;go_wp2_with fail
 refine K2.mono ?_;rintro e w3 ⟨rfl,ze,z2⟩;have K3:=KF.out w3 (z9.out.own z2 (Qk zg.out z5.out) (by decide) (by decide));have K4:=KD.out w3 (z9.out.keep z2 (Qe zd.out z5.out) (by decide) (by decide));have zb:=DY (z9.out.keep z2 (Qe zd.out z5.out) (by decide) (by decide));have za:=DY (DZ ze ((Q6.of_below z5).trans z2));clear K2 ze z2;go_wp2_with fail
 refine K3.mono ?_;rintro e w4 ⟨rfl,rfl⟩;clear K3;go_wp2_with fail
 refine K4.mono ?_;rintro e w5 ⟨q,c,rfl,z0,z4,z3⟩;have zi:=DY (DZ z0 (DZ z4 z3));clear K4 z0 z4 z3;go_wp2_with fail
 rw[rounds_succ];go_wp2;go_ret;obtain⟨z0,z4,z3⟩:=zi.out;exact⟨q,c,w3,rfl,za.out.1.kept_b z3 zb.out (by decide) (by decide) (by decide) (by decide),z0,QO z4 za.out.2.size,za.out.2,z3⟩
theorem playM_ok{h:AlC}{w:World}{bs:List UInt8}{k:Nat}(hA:AlM h w bs k)(hk:k<11){l:List Int}{A1:Option Addr}{c1 Bq b10:Nat}(hl:Z3 w Bq (.slice A1 1 c1) [l])(hm:l.length*8<=reachBytes)(he:Uj l=0)(hs:Yb 3 ((k+1:Nat):Int) (Z2 l)=0)(hsl:(QX 3 ((k+1:Nat):Int) (Z2 l)).length=256)
  (hz:(Lit.int .i64 (Q9 l)).wf=true) (hf:(Lit.int .i64 (Zp l)).wf=true) (h10:w.heap[b10]?=some (.cells #[.slice none 0 0] 154)):
  Calls prog 173 #[.pointer (some ⟨h.ga,0,none⟩), .slice A1 1 c1, .func (.func 178) #[] #[.pointer (some ⟨b10,0,none⟩)]] w fun e w'=>∃q c w2,e= .returned .nilIface/\AlM h w' (QR bs (k+1) (QX 3 ((k+1:Nat):Int) (Z2 l))) (k+1)/\w'.heap[b10]?=some (.cells #[.slice (some ⟨q,0,none⟩) 1 c] 154)/\w'.ownsRow w.heap.size 148 3 (.slice (some ⟨q,0,none⟩) 1 c) 1 (Rf ((k+1:Nat):Int) (Q9 l) (Zp l))/\Q6 h w w2/\w2.grownBy w' (some b10):=by
 obtain⟨vs,z1,zh,zf⟩:=hl;obtain⟨u,hu,z6⟩:=zf 0 l rfl;obtain⟨q1,rfl⟩:=Zj z1 (by decide);obtain⟨Al,cl,rfl⟩:=QI z6;have c0:=QW z1 0 _ hu;have KB:=bput_any Al cl l w hm (Qh.of_own z6);rw[he] at KB;have KL:Hid (∀(W:World),AlM h W bs k->∀(A3:Option Addr) (c3:Nat),(∀U,Q6 h W U->Qh U U.heap.size A3 (bv (Z2 l)))->Calls prog 180 #[.pointer (some ⟨h.ga,0,none⟩), .int .i64 3, .slice A3 (Z2 l).length c3] W fun e w'=>e= .returned (.tuple #[.int .i64 ((k+1:Nat):Int), .nilIface])/\AlM h w' (QR bs (k+1) (QX 3 ((k+1:Nat):Int) (Z2 l))) (k+1)/\Q6 h W w'):=DY fun W hW A3 c3 hr=>UE hW hk 3 (by decide) A3 c3 _ hs hsl hr
 have KF:Hid (∀W,W.ownsRow Bq 3 1 (.slice Al l.length cl) l.length (iv l)->Calls prog 194 #[.slice Al l.length cl] W fun e w'=>e= .returned (.tuple #[.int .i64 (Q9 l), .int .i64 (Zp l)])/\W=w'):=DY fun W hW=>Ki Al cl l W _ hm (Qh.of_own hW)
 have KD:Hid (∀W,W.heap[b10]?=some (.cells #[.slice none 0 0] 154)->Calls prog 178 #[.agg #[.int .i64 ((k+1:Nat):Int), .int .i64 (Q9 l), .int .i64 (Zp l)], .pointer (some ⟨b10,0,none⟩)] W fun e w'=>∃q c,e= .returned (.tuple #[])/\w'.heap[b10]?=some (.cells #[.slice (some ⟨q,0,none⟩) 1 c] 154)/\w'.ownsRow W.heap.size 148 3 (.slice (some ⟨q,0,none⟩) 1 c) 1 (Rf ((k+1:Nat):Int) (Q9 l) (Zp l))/\W.grownBy w' (some b10)):=DY fun W hb=>meta1_ok ((k+1:Nat):Int) (Q9 l) (Zp l) hb
 have HA:=DY hA;have zj:=DY hA.ib;have zg:=DY z6;have zd:=DY h10;clear hA hk hm he hs hsl hz hf h10 z1 zh zf hu z6;generalize (QR bs (k+1) (QX 3 ((k+1:Nat):Int) (Z2 l)))=nb at*;generalize (Rf ((k+1:Nat):Int) (Q9 l) (Zp l))=rw0 at*;generalize ((k+1:Nat):Int)=k1 at*;generalize Q9 l=zn at*;generalize Zp l=fi at*;generalize Z2 l=pv at*;go_enter func173,ntmps173
 go_wp2_with fail
 refine wp_loop_rounds 2 ?_;rw[rounds_succ];go_wp2_with fail
 refine KB.mono ?_;rintro e w2 ⟨A2,c2,rfl,zc,z8⟩;rw[Qm] at zc ⊢;have z7:=HA.out.below z8;have K2:=KL.out w2 z7 A2 c2 (fun U hU=>Qh.of_own (z7.pay zj.out hU zc (by decide)));have z5:=DY z8;have z9:=DY z7;clear KB zc z8 z7 c0;go_wp2_with fail
 refine K2.mono ?_;rintro e w3 ⟨rfl,ze,z2⟩;have K3:=KF.out w3 (z9.out.own z2 (Qk zg.out z5.out) (by decide) (by decide));have K4:=KD.out w3 (z9.out.keep z2 (Qe zd.out z5.out) (by decide) (by decide));have zb:=DY (z9.out.keep z2 (Qe zd.out z5.out) (by decide) (by decide));have za:=DY (DZ ze ((Q6.of_below z5).trans z2));clear K2 ze z2;go_wp2_with fail
 refine K3.mono ?_;rintro e w4 ⟨rfl,rfl⟩;clear K3;go_wp2_with fail
 refine K4.mono ?_;rintro e w5 ⟨q,c,rfl,z0,z4,z3⟩;have zi:=DY (DZ z0 (DZ z4 z3));clear K4 z0 z4 z3;go_wp2_with fail
 rw[rounds_succ];go_wp2;go_ret;obtain⟨z0,z4,z3⟩:=zi.out;exact⟨q,c,w3,rfl,za.out.1.kept_b z3 zb.out (by decide) (by decide) (by decide) (by decide),z0,QO z4 za.out.2.size,za.out.2,z3⟩
theorem Q6.new{h:AlC}{w a b:World}{j:Nat}(h1:Q6 h w a)(h2:a.grownBy b (some j))(hj:w.heap.size<=j):Q6 h w b:=
 ⟨h2.os.trans h1.os,h2.tape.trans h1.tape,h2.output.trans h1.output,D3 h1.size h2.size,fun i hi e1 e2=>(h2.block i (Nh hi h1.size) (fun e=>by have:=Nd e;omega)).trans (h1.block i hi e1 e2)⟩
def cs0:List Int:=[0,0,0,0,1,0,0,0,0]
theorem cs0_split:Y8 cs0=[cs0]/\VH cs0=[]/\Yq cs0=0:=by decide+kernel
theorem Gu:Uj cs0=0/\Yb 3 4 (Z2 cs0)=0/\(QX 3 4 (Z2 cs0)).length=256:=by decide+kernel
def entS:Qv:=⟨0,XF (YV 4 (Q9 cs0) (Zp cs0)),0⟩
theorem tr_slots:Ul 4 [entS] 4 9:=⟨by decide+kernel,by decide+kernel,by decide+kernel,by decide+kernel,by decide+kernel,by decide+kernel,by decide+kernel,by decide+kernel,by decide+kernel,by decide+kernel⟩
theorem tr_over5:Ul 5 [] 5 18:=⟨by decide+kernel,by decide+kernel,by decide+kernel,by decide+kernel,by decide+kernel,by decide+kernel,by decide+kernel,by decide+kernel,by decide+kernel,by decide+kernel⟩
def dataB(bs:List UInt8):List UInt8:=QR (QR (QR bs 4 (QX 3 4 (Z2 cs0))) 5 (QX 2 5 (Zi (QH 4 true [entS])))) 6 (QX 2 6 (Zi (QH 5 true [])))
theorem pdata_ok{h:AlC}{w:World}{bs:List UInt8}(hA:AlM h w bs 3){q c Bc:Nat}(ho:w.ownsRow Bc 3 1 (.slice (some ⟨q,0,none⟩) 9 c) 9 (iv cs0)):
  Calls prog 110 #[.pointer (some ⟨h.ga,0,none⟩), .slice (some ⟨q,0,none⟩) 9 c] w fun e w'=>e= .returned (.tuple #[.int .i64 5, .int .i64 6, .nilIface])/\AlM h w' (dataB bs) 6/\Q6 h w w':=by
 have hmf:∀(fn:Fn) (first cap:Array Value) (w:World),(Instr.makeFunc fn first cap).run prog w= .ok (.func fn first cap) w:=fun _ _ _ _=>rfl
 obtain⟨zf,za,zh⟩:=cs0_split;have KI:=YB hA;have KS:=U0 (some ⟨q,0,none⟩) c cs0 (by decide) w (Qh.of_own ho);unfold Z4 at KS;rw[zf,za,zh] at KS;have KF:=DY (fun(W:World) (hW:Below w.heap.size w W)=>Rk (hA.below hW) (by decide));have KN:=DY (fun(t n:Int) (W:World) (hn:Yu t n=1)=>(show Calls prog 105 #[.int .i64 t, .int .i64 n] W fun e w'=>e= .returned (.int .i64 1)/\Below W.heap.size W w' from by
  have:=Yt t n W;rw[hn] at this;exact this))
 have HA:=DY hA;clear hA ho zf za zh;go_enter func110,ntmps110
 go_wp2_with fail
 refine KI.mono ?_;rintro e w1 ⟨rfl,rfl⟩;clear KI;go_wp2_with fail
 refine KS.mono ?_;rintro e w2 ⟨A1,c1,A2,c2,rfl,hl,-,z3⟩;rw[show([cs0]:List (List Int)).length=1 from rfl,show([]:List Qv).length=0 from rfl] at*
 have HL:=DY hl;have zi:=DY z3;have K2:=KF.out w2 z3;rw[show((11-3:Nat):Int)=8 from rfl] at K2
 clear KS hl z3;go_wp2_with fail
 refine K2.mono ?_;rintro e w3 ⟨rfl,z7⟩;have zg:Below w2.heap.size w2 w3:=z7.symm▸(D6 w2.heap.size w2).drew;have z5:=DY zg;clear K2 z7 zg;go_wp2_with fail
 refine(KN.out 4 1 _ nod41).mono ?_;rintro e w4 ⟨rfl,zl⟩;have z4:=DY (Qb z5 zl);clear zl;go_wp2_with fail
 refine(KN.out 5 0 _ nod50).mono ?_;rintro e w5 ⟨rfl,zb⟩;have z1:=DY (Qb z4 zb);clear zb;obtain⟨w6,z9,zm,zo⟩:=DS w5 (.cells #[.slice none 0 0] 137);have z2:=DY (Qb z1 zm);have zp:=DY (Qb zi z2);have KP:=playD_ok (HA.out.below zp.out) (by omega) (HL.out.keep z2.out) (by decide) Gu.1 Gu.2.1 Gu.2.2 (by decide+kernel) (by decide+kernel) zo;clear zm zo;go_upto_region 9 with fail
 rw[<-z9];clear z9;go_wp2_with fail
 refine KP.mono ?_;rintro e w7 ⟨q7,c7,w2',rfl,z6,z0,z8,ze,zn⟩;have zr:=Qa z0 0 rfl;have HA7:=DY z6;have zq:=DY (Q6.new ((Q6.of_below zp).trans ze) zn (D3 zi.out.size z1.out.size));have KT:=tree1_ok z6 (by omega) (x:=entS) z8 tr_slots;clear KP z6 z0 z8 ze zn;go_wp2_with fail
 refine KT.mono ?_;rintro e w8 ⟨rfl,zc,zk⟩;have K8:=tree0_ok zc (by omega) A2 c2 tr_over5;have zs:=DY (zq.out.trans zk);clear KT zc zk zr;go_wp2_with fail
 refine K8.mono ?_;rintro e w9 ⟨rfl,zj,zd⟩;have HF:=DY (DZ (show AlM h w9 (dataB bs) 6 from zj) (zs.out.trans zd));clear K8 zj zd;go_wp2;go_ret3
 exact⟨rfl,HF.out.1,HF.out.2⟩
theorem zeroMs(w:World):(zeroValue 47).run prog w= .ok (.slice none 0 0) w:=by kernel_rfl
theorem root_range{s:List UInt8}(h:rdE [QB] s=0):1<=rd1 QB s/\rd1 QB s<=14399:=rd1_in h
theorem Dm{o:Oper}{a:Act}{w w':World}{K:Act->World->Prop}{Q:Exit->Act->World->Prop}{P:Program}(t:TypeId)(mo ko vo:Operand)(ho:o.op= .mapUpdate t mo ko vo)(mv kv vv:Value)(hm:a.eval mo=mv)(hk:a.eval ko=kv)(hv:a.eval vo=vv)
  (hrun:(Instr.mapUpdate t mv kv vv).run P w= .ok () w') (h:K (a.put o.dst undef) w'):Oper.wp P o a w K Q:=by
 unfold Oper.wp execOp;simp only[ho,hm,hk,hv,Sem.run_bind,hrun];exact h
theorem atop_any{w:World}{g base m:Nat}{bs:List UInt8}{s:Nat->Int}{fuel:Int}{bd br bm:Nat}{bad:Bool}{N nd:Nat}{fd:Int->Option Value}{v:Value}
  (h:Aud w g base m s fuel bd br bm bad N nd 0 0 fd (fun _=>none) (fun _=>none) v) (hi:ZH w base m bs) (hT:XC w) (hfu:fuel<=1000000) (hN:N<=1000000000):
  Calls prog 202 #[.pointer (some ⟨g,0,none⟩)] w fun e w'=>e= .returned (.tuple #[])/\∃v' fr' fm' nr' nm' R,Aud w' g base m s fuel bd br bm (Za bs (s 3) fuel (bad||(QP bs (s 5) 1 fuel).bad) (QP bs (s 5) 1 fuel).ents) (N+600000000000) nd nr' nm' fd fr' fm' v'/\XL w' base bs (s 3) fuel (Za bs (s 3) fuel (bad||(QP bs (s 5) 1 fuel).bad) (QP bs (s 5) 1 fuel).ents) R fm'/\nr'<=18000000/\nm'<=14399/\
   (Za bs (s 3) fuel (bad||(QP bs (s 5) 1 fuel).bad) (QP bs (s 5) 1 fuel).ents=false->fr'=Xq YG (QP bs (s 5) 1 fuel).ents/\∀e∈(QP bs (s 5) 1 fuel).ents,rd1 QB e.val∈R)/\Below base w w':=by
 have KB:=DY (fun(V:World) (hS:Below w.heap.size w V)=>O4 (s 5) 1 fuel hfu V (hi.below (hS.mono h.bs)) (D3 h.bs hS.size));have zc:=Xo bs (s 5) 1 fuel;have z7:=Jj bs (s 5) 1 fuel;obtain⟨st,qb⟩:=DR (QP bs (s 5) 1 fuel);rw[<-qb] at KB zc z7 ⊢;have HP:=DY zc.1;have qz:=DY z7;have HA:=DY h;have qr:=DY hfu;have HG:=DY (DZ (D0.1 h.row).1 (DZ hi (DZ hT hN)));have c1:w.cell? ⟨g,1,none⟩=some (.pointer (some ⟨m,0,none⟩)):=Qa h.row 1 rfl;have c8:w.cell? ⟨g,7,none⟩=some (.int .i64 (s 5)):=Qa h.row 7 rfl;have zV:w.cell? ⟨g,13,none⟩=some (.int .i64 fuel):=Qa h.row 13 rfl;clear h hi hT qb zc z7 hN;generalize s 5=s6 at*;go_enter func202,ntmps202
 go_upto_region 0 with fail
 go_cut [2,22] (fun s2 s20 wx=>ScB w st s2 wx)
 case first=>
  have q8:=(D6 w.heap.size w).drew;have zi:=DY (fun(V V':World) (hb:Below V.heap.size V V') (hS:Below w.heap.size w V/\V.cell? ⟨g,1,none⟩=some (.pointer (some ⟨m,0,none⟩))/\V.cell? ⟨g,7,none⟩=some (.int .i64 s6)/\V.cell? ⟨g,13,none⟩=some (.int .i64 fuel))=>
   (show Below w.heap.size w V'/\V'.cell? ⟨g,1,none⟩=some (.pointer (some ⟨m,0,none⟩))/\V'.cell? ⟨g,7,none⟩=some (.int .i64 s6)/\V'.cell? ⟨g,13,none⟩=some (.int .i64 fuel) from⟨Qb hS.1 hb,Qg hb hS.2.1,Qg hb hS.2.2.1,Qg hb hS.2.2.2⟩))
  have zD:=DY (fun(V:World) (r:Nat) (hr:w.heap.size<=r) (x0 x1 x2 x3 x4:Value) (hS:Below w.heap.size w V/\V.cell? ⟨g,1,none⟩=some (.pointer (some ⟨m,0,none⟩))/\V.cell? ⟨g,7,none⟩=some (.int .i64 s6)/\V.cell? ⟨g,13,none⟩=some (.int .i64 fuel))=>
   (show Below w.heap.size w (((((V.setCell ⟨r,0,none⟩ x0).setCell ⟨r,1,none⟩ x1).setCell ⟨r,2,none⟩ x2).setCell ⟨r,3,none⟩ x3).setCell ⟨r,4,none⟩ x4)/\(((((V.setCell ⟨r,0,none⟩ x0).setCell ⟨r,1,none⟩ x1).setCell ⟨r,2,none⟩ x2).setCell ⟨r,3,none⟩ x3).setCell ⟨r,4,none⟩ x4).cell? ⟨g,1,none⟩=some (.pointer (some ⟨m,0,none⟩))/\(((((V.setCell ⟨r,0,none⟩ x0).setCell ⟨r,1,none⟩ x1).setCell ⟨r,2,none⟩ x2).setCell ⟨r,3,none⟩ x3).setCell ⟨r,4,none⟩ x4).cell? ⟨g,7,none⟩=some (.int .i64 s6)/\(((((V.setCell ⟨r,0,none⟩ x0).setCell ⟨r,1,none⟩ x1).setCell ⟨r,2,none⟩ x2).setCell ⟨r,3,none⟩ x3).setCell ⟨r,4,none⟩ x4).cell? ⟨g,13,none⟩=some (.int .i64 fuel) from by
    have hb:=(D6 w.heap.size V).grown (Zz V r x0 x1 x2 x3 x4) hS.1.size (fun k hk=>by have:=Option.some.inj hk;omega);exact⟨hS.1.trans hb,(hb.cell (p:=⟨g,1,none⟩) HG.out.1).trans hS.2.1,(hb.cell (p:=⟨g,7,none⟩) HG.out.1).trans hS.2.2.1,(hb.cell (p:=⟨g,13,none⟩) HG.out.1).trans hS.2.2.2⟩))
  have qv:=DY (show(w.drew.alloc (.cells #[.slice none 0 0, .slice none 0 0, .int .i64 0, .int .i64 0, .slice none 0 0] 140)).heap[w.heap.size]?=some (.cells #[.slice none 0 0, .slice none 0 0, .int .i64 0, .int .i64 0, .slice none 0 0] 140) from heap_alloc_new w.drew _);refine wp_region_held_drew (S:=(fun V=>Below w.heap.size w V/\V.cell? ⟨g,1,none⟩=some (.pointer (some ⟨m,0,none⟩))/\V.cell? ⟨g,7,none⟩=some (.int .i64 s6)/\V.cell? ⟨g,13,none⟩=some (.int .i64 fuel))) (by kernel_rfl) ?_ (fun hHeld=>?_)
  (focus((try dsimp only);(first|exact⟨q8,c1,c8,zV⟩|with_reducible exact zi.out _ _ ze hHeld|with_reducible exact zi.out _ _ (Qd _ _) qk.out|with_reducible exact zi.out _ _ (Qd _ _) hHeld|exact zD.out w9 w.heap.size (Na _) _ _ _ _ _ hHeld|exact zD.out _ w9.heap.size hHeld.1.size _ _ _ _ _ hHeld)))
  refine QD (.f 0 (.f 1 (.f 2 (.f 3 (.f 4 (.f 5 (.f 6 (.f 7 (.f 8 (.f 9 (.f 10 (.f 11 (.f 12 (.t 13 (.o 14 (.o 15 .e)) 14 (.o 13 (.o 15 .e)))))))))))))))) ?_
  repeat' ((first|(refine QL (v:=?_) (hv:=?_) (h:=?_);rotate_left;(focus(first|(refine .inr ⟨by rfl,?_⟩;rfl)|(refine .inl ⟨by rfl,?_⟩;intro w hSw;(try dsimp only at hSw);(try simp only[D8,D4,D5]);go_simp;try(with_reducible rfl)))))|(refine Qr (h:=?_))|(((first|refine Qx (h:=fun K hK=>?_)|refine Zt (h:=fun K hK=>?_) (h':=fun K hK=>?_))<;>((try simp only[D8,D4,D5]);go_simp))<;>((first|(go_at_call 122;refine(KB.out _ hHeld.1).mono ?_;rintro e w9 ⟨E0,el,E1,B0,bl,B1,dd,lk,F0,fl,F1,rfl,zg,ze⟩;have zj:=DY (zg.mono hHeld.1.size);have qk:=DY (zi.out _ _ ze hHeld);clear zg;first|(have z9:=Qe qv.out ze;have q0:=Qa z9 0 rfl;have q1:=Qa z9 1 rfl;have q2:=Qa z9 2 rfl;have q3:=Qa z9 3 rfl;have q4:=Qa z9 4 rfl;have z0:=Qf z9 0;have z1:=Qf z9 1;have z2:=Qf z9 2;have z3:=Qf z9 3;have z4:=Qf z9 4;have qg:=DY z9;clear z9)|skip)|skip);refine hK.out _ _ ?_ (fun hHeld=>?_);(focus((try dsimp only);(first|exact⟨q8,c1,c8,zV⟩|with_reducible exact zi.out _ _ ze hHeld|with_reducible exact zi.out _ _ (Qd _ _) qk.out|with_reducible exact zi.out _ _ (Qd _ _) hHeld|exact zD.out w9 w.heap.size (Na _) _ _ _ _ _ hHeld|exact zD.out _ w9.heap.size hHeld.1.size _ _ _ _ _ hHeld)));clear hK K)))<;>(try simp only[Act.put,Nc,Nf,Ng]))
  all_goals (refine Qu ?_;refine wpAnyH_done (by kernel_rfl) ?_ _)
  ·go_wp2;go_meet
   exact⟨hHeld.1,w9.heap.size,E0,el,E1,B0,bl,B1,dd,lk,F0,fl,F1,rfl,heap_alloc_new w9 _,zj.out.keep (Qd w9 _)⟩
  ·go_wp2;go_meet
   exact⟨hHeld.1,w.heap.size,E0,el,E1,B0,bl,B1,dd,lk,F0,fl,F1,rfl,JV qg.out _ _ _ _ _,zj.out.grown qg.out (by decide) (by decide) (by decide) (Zz _ _ _ _ _ _ _)⟩
 case rest=>
  obtain⟨za,X,E0,el,E1,B0,bl,B1,dd,lk,F0,fl,F1,rfl,hX,zg⟩:=hcut;have z5:=(D6 wc.heap.size wc).drew;have ha:=(HA.out.keep za).keep z5;have zg:=zg.keep z5;obtain⟨ls,qA,qo,qp,ql⟩:=zg.f;subst qA;have KF:=Oa (w:=wc.drew) (g:=g) (base:=base) (B:=w.heap.size) (cs:=auC v m s fuel bd br bm) (t:=349) (v:=v) (bad:=bad) (N:=N) ha.row (by decide) (by decide) (by decide) rfl ha.dmg ha.bs (by have:=ha.b0;have:=ha.ge;omega) ha.b0 (fl:=ls) (by have:=HG.out.2.2.2;have:=zg.fb;omega) 3 F0 F1 qo qp (HG.out.2.2.1.below (Qb za z5));have x4:=Qa hX 4 rfl;have x0:=Qa hX 0 rfl;have zz:=DY ha;have HX:=DY (Qe hX z5);have zj:=DY zg;have qw:=DY ((Qb za z5).mono HA.out.bs);have zq:=DY ql;clear ha za hX zg qo qp ql c1 c8 zV z5;go_upto_region 1 with fail
  go_still_tail 5,(by kernel_rfl)
  change wpList _ _ _ _ _ wc.drew;generalize wc.drew=w3 at*;go_wp2_with fail
  refine KF.mono ?_;rintro e w4 ⟨rfl,v4,q5,q9,zw⟩;have zH:=zz.out.added q5 q9 zw;rw[<-zq.out] at zH;have q7:=zw.row HX.out (Ve HX.out zz.out.row (by decide)) (by decide);have q0:=Qa q7 0 rfl;have zQ:=zw.own zz.out.row zj.out.e (by decide) (by decide);have qC:=DY (qw.out.trans (zz.out.below zw));obtain⟨es,zl⟩:=DR (st.ents);rw[<-zl] at zQ;have qu:el=es.length:=by rw[zl];exact zj.out.ee
  subst qu;have qB:=DY (show Og g base m s fuel bd br bm (bad||st.bad) (N+ls.length) nd fd bs (s 3) w.heap.size E1 E0 es w 0 w4 from
   ⟨v4,fun _=>none,fun _=>none,N+ls.length,0,0,[],by simpa[Za] using zH,XL.nil _ _ _ _ _ _,by simp,by omega,by simp,fun _=>(keyF_nil YG).symm,fun _ e he=>(by cases he),qC.out,zQ⟩)
  have HL:=DY (And.intro (rfl:es.length=es.length) (DZ zj.out.eb zj.out.fb));have qx:=DY zl;have qd:=DY (show(Qp es).Pairwise (·<·) by rw[zl];exact HP.out);have qM:=DY (show∀k,k<es.length->(Lit.int .i64 (Zr es k)).wf=true/\(YN es k).length<=reachBytes by rw[zl];exact qz.out);clear KF q5 q9 zw zH q7 zQ zl x4 x0 zq;go_wp2_with fail
  go_loopw [32] (fun i wr=>∃(k:Nat),k<=es.length/\i= .int .i64 k/\Hid (Og g base m s fuel bd br bm (bad||st.bad) (N+ls.length) nd fd bs (s 3) w.heap.size E1 E0 es w k wr)) (fun i _=>es.length-(intOf i).toNat)
  case atStart=>exact⟨0,by omega,rfl,qB⟩
  case round=>
   obtain⟨k,hk,rfl,HH⟩:=hrel;have qE:k<=18000000:=by have:=HL.out.1;have:=HL.out.2.1;omega
   have zK:=DY qE;by_cases hlt:k<es.length
   ·obtain⟨vr,fr,fm,N',nr,nm,R,hA,hM,hN',qn,qe,hf,hq,hB,hE⟩:=HH.out;have z8:=qM.out k hlt;unfold Zr YN at z8;rw[D9] at z8;obtain⟨y0,y1,y2,hy⟩:∃y0 y1 y2,es[k]=⟨y0,y1,y2⟩:=⟨_,_,_,rfl⟩;have zR:es[k]?=some ⟨y0,y1,y2⟩:=by rw[D1 hlt,hy]
    obtain⟨b,o,rfl,e0,e1,e2⟩:=Gl hE rfl zR;rw[zR] at z8;simp only[N8] at z8;clear zR;have zn:=Lib.hid hlt;obtain⟨wa,qj,qm,zO⟩:=DS wr (.cells #[.int .i64 y0, .string ⟨y1.toArray⟩, .int .i64 y2] 146);have z1:=Qa zO 1 rfl;have KD:=YD y1 wa z8.2;have qq:=Lib.hid z8.1;have zd:=Lib.hid (show(es[k]'hlt).val=y1 by rw[hy]);have zu:=Lib.hid (show(es[k]'hlt).key=y0 by rw[hy]);have zM:=Lib.hid (show YG (es[k]'hlt)= .int .i64 (rd1 QB y1) by rw[hy];rfl);obtain⟨er,zP⟩:=DR (rdE [QB] y1);obtain⟨rt,zA⟩:=DR (rd1 QB y1);rw[<-zP,<-zA] at KD;rw[<-zA] at zM;have zE:=Lib.hid zP;have zk:=Lib.hid zA;have z6:=Lib.hid (DZ hA (DZ hM (DZ hN' (DZ qn (DZ qe (DZ hf (DZ hq (DZ hB hE))))))));have qy:=Lib.hid qm;have qt:=Lib.hid zO;have zI:=Lib.hid hM.len;clear hA hM hN' qn qe hf hq hB hE z8 hy qm zO zP zA;go_upto_region 5 with fail
    rw[<-qj];clear qj e0 e1 e2;go_wp2_with fail
    refine KD.mono ?_;rintro e wd ⟨rfl,zG⟩;have z5:=(D6 wd.heap.size wd).drew;have za:=Qb (Qb qy zG) z5;have HBX2:=DY za;have zy:=Qe (Qe qt zG) z5;have qG:=Lib.hid zy;have k2:=Qa zy 2 rfl;have zo:=z6.out.1.keep za;have zW:=Lib.hid zo;have qh:=Lib.hid (z6.out.2.1.keep za);have zT:=Lib.hid (Qk z6.out.2.2.2.2.2.2.2.2 za);have qa:=Lib.hid (z6.out.2.2.2.2.2.2.2.1.trans (za.mono z6.out.1.bs));by_cases he:er=0
    ·have KA:=UF g 3 y2 wd.drew;subst he;clear KD zG z5 za zy zo z1;go_upto_region 6 with fail
     go_still_tail 6,(by kernel_rfl)
     change wpList _ _ _ _ _ wd.drew;generalize wd.drew=wb at*;go_wp2_with fail
     refine KA.mono ?_;rintro e wf ⟨rfl,rfl⟩;have z5:=(D6 wb.heap.size wb).drew;have zh:=zW.out.keep z5;obtain⟨w8,hput,zZ,zp⟩:=zh.r.put (t:=344) underlying344 (by have:=z6.out.2.2.2.1;have:=zK.out;simp only[maxLen];omega) qq (.int .i64 rt);have zF:=zh.put_r zZ zp;have zJ:=DY zF;have zY:=DY ((qh.out.keep z5).turn zh.r zp);have qc:=DY ((Qk zT z5).kept zp (.inr (zh.r.not_row (Qk zT z5)).symm));have qf:=DY ((qa.out.trans (z5.mono zW.out.bs)).grown zp zh.bs (fun i hi=>by cases hi;exact zh.re));have c15:wb.drew.cell? ⟨g,15,none⟩=some (.map (some br)):=Qa zh.row 15 rfl;have qK:w8.cell? ⟨g,16,none⟩=some (.map (some bm)):=Qa zF.row 16 rfl;have k0:=Qa (Qe qG z5) 0 rfl;have zN:=root_range (s:=y1) zE.out.symm;rw[<-zk.out] at zN;have qF:=DY zN;have zL:JC rt:=by
      unfold JC;simp[Lit.wf,IntKind.min,IntKind.max,IntKind.bits,IntKind.signed];omega
     have zf:=zF.m.got (t:=345) underlying345 (zeroMs w8) zL;have qH:=DY zL;clear KA z5 zh zZ zp zF k2 zN zL;go_upto_region 7 with fail
     go_region
     cases hfm:fm rt with
     |some u=>
      rw[hfm] at zf;simp only[N8,Option.isSome_some] at zf;have HF:=DY (Og.told hlt qd (by rw[zd.out,<-zE.out]) (by rw[zd.out,<-zk.out];exact hfm) zJ zY z6.out.2.2.1 z6.out.2.2.2.1 z6.out.2.2.2.2.1 z6.out.2.2.2.2.2.1 (by rw[zu.out,zM.out]) z6.out.2.2.2.2.2.2.1 qf qc);clear hfm;go_wp2;go_roundw
      case rel=>exact⟨k+1,by have:=zn.out;omega,by go_num,HF⟩
      case measure=>have:=zn.out;simp[intOf];omega
     |none=>
      rw[hfm] at zf;simp only[Option.getD_none,Option.isSome_none] at zf;have qJ:=DY hfm;clear hfm;have z5:=(D6 w8.heap.size w8).drew;have zC:=zJ.out.keep z5;have ze:=qf.out.trans (z5.mono zJ.out.bs);have KV:=adev_any (root:=rt) zC (HG.out.2.1.below ze) ((ze.cell (p:=⟨0,0,none⟩) zC.b0).trans HG.out.2.2.1) qr (by have:=HG.out.2.2.2;have:=HL.out.2.2;have:=z6.out.2.2.1;have:=zK.out;have:=zI.out;omega);have qD:=DY (zY.out.keep z5);have qs:=DY (Qk qc z5);have qI:=DY ze;have zx:=DY zC;have zt:=Qg z5 qK;have zU:=DY (show∀(w9:World) (A:Option Addr) (c:Nat) (ms:List ZO) (v5:Value),Aud w9 g base m s fuel bd br bm (Za bs (s 3) fuel (bad||st.bad) (es.take k)||!(ZM bs (s 3) fuel rt).isSome) (N'+37000001) nd (nr+1) nm fd (fun y=>if y=y0 then some (.int .i64 rt) else fr y) fm v5->ms.length<=18000000->
        ((Za bs (s 3) fuel (bad||st.bad) (es.take k)||!(ZM bs (s 3) fuel rt).isSome)=false->ZM bs (s 3) fuel rt=some ms)->w9.ownsRow w8.drew.heap.size 52 3 (.slice A ms.length c) ms.length (mv ms)->Q3 g base w8.drew w9->
        ∃zm,(Instr.mapUpdate 345 (.map (some bm)) (.int .i64 rt) (.slice A ms.length c)).run prog w9= .ok () zm/\zm.cell? ⟨g,16,none⟩=some (.map (some bm))/\Og g base m s fuel bd br bm (bad||st.bad) (N+ls.length) nd fd bs (s 3) w.heap.size E1 (some ⟨b,o,none⟩) es w (k+1) zm from fun w9 A c ms v5 ha hl zB zb ht=>by
       obtain⟨zm,hp,hv,hg⟩:=ha.m.put (t:=345) underlying345 (by have:=z6.out.2.2.2.2.1;have:=zI.out;simp only[maxLen];omega) qH (.slice A ms.length c);have zr:=ha.put_m hv hg;have zS:base<=w8.drew.heap.size:=zx.out.bs;refine⟨zm,hp,Qa zr.row 16 rfl,?_⟩;refine Og.new hlt qd (by rw[zd.out,<-zE.out]) (by rw[zd.out,<-zk.out];exact qF.out) (by rw[zd.out,<-zk.out];exact qJ.out) (by rw[zd.out,<-zk.out];exact zr) ((qD.out.added zx.out.row ht).turn ha.m hg) ((QO zb zS).kept hg (.inr (ha.m.not_row zb).symm)) hl (by rw[zd.out,<-zk.out];exact zB) (by rw[zd.out,<-zk.out]) z6.out.2.2.1 z6.out.2.2.2.1 z6.out.2.2.2.2.1 z6.out.2.2.2.2.2.1 (by rw[zu.out,zM.out]) z6.out.2.2.2.2.2.2.1 ((qI.out.trans (zx.out.below ht)).grown hg ha.bs (fun i hi=>by cases hi;exact ha.me)) ?_;have he:=ht.own zx.out.row qs.out (by decide) (by decide);exact he.kept hg (.inr (ha.m.not_row he).symm))
      clear z5 zC ze;go_upto_region 10 with fail
      refine wp_region_held_drew (S:=(fun V=>V.cell? ⟨g,16,none⟩=some (.map (some bm)))) (by kernel_rfl) ?_ (fun hHeld=>?_)
      (focus((try dsimp only);(first|exact zt|exact zv|exact zs)))
      refine QD (.f 0 (.f 1 (.f 2 (.f 3 (.f 4 (.f 5 (.f 6 (.o 7 (.r 8 .e))))))))) ?_
      repeat' ((first|(refine QL (v:=?_) (hv:=?_) (h:=?_);rotate_left;(focus(first|(refine .inr ⟨by rfl,?_⟩;rfl)|(refine .inl ⟨by rfl,?_⟩;intro w hSw;(try dsimp only at hSw);(try simp only[D8,D4,D5]);go_simp;try(with_reducible rfl)))))|(refine Qr (h:=?_))|((first|((refine Qx (h:=fun K hK=>?_))<;>((try simp only[D8,D4,D5]);go_simp))|(refine Q0 (h:=fun K hK=>?_)))<;>((first|(go_at_call 245;refine KV.mono ?_;rintro e w9 ⟨A,c,ms,v5,rfl,ha,hl,zB,zb,ht⟩;have zv:=Qa ha.row 16 rfl;obtain⟨zm,hp,zs,hF⟩:=zU.out w9 A c ms v5 ha hl zB zb ht;have HF:=DY hF;clear ha hl zB zb ht hF)|(refine Dm 345 (.tmp 70) (.tmp 71) (.tmp 74) rfl _ _ _ rfl rfl rfl hp ?_)|skip);refine hK.out _ _ ?_ (fun hHeld=>?_);(focus((try dsimp only);(first|exact zt|exact zv|exact zs)));clear hK K)))<;>(try simp only[Act.put,Nc,Nf,Ng]))
      all_goals (refine Qu ?_;refine wpAnyH_done (by kernel_rfl) ?_ _)
      go_wp2;go_roundw
      case rel=>exact⟨k+1,by have:=zn.out;omega,by go_num,HF⟩
      case measure=>have:=zn.out;simp[intOf];omega
    ·have KA:=Vl (w:=wd.drew) (g:=g) (base:=base) (cs:=auC vr m s fuel bd br bm) (t:=349) zo.row (by decide) rfl zo.dmg zo.bs (by have:=HG.out.2.2.2;have:=HL.out.2.2;have:=z6.out.2.2.1;have:=zK.out;have:=zI.out;omega) 3 y2 er;have d1:decide (er≠0)=true:=decide_eq_true he;have qL:=DY (show YT bs (s 3) fuel (es[k]'hlt)=false by unfold YT;rw[zd.out,<-zE.out,decide_eq_false he];rfl);rw[d1,Bool.or_true] at KA;clear KD zG z5 za zy zo z1 he d1;go_upto_region 6 with fail
     go_still_tail 6,(by kernel_rfl)
     change wpList _ _ _ _ _ wd.drew;generalize wd.drew=wb at*;go_wp2_with fail
     refine KA.mono ?_;rintro e wf ⟨rfl,v5,zX,q6,qi⟩;have HF:=DY (Og.no hlt qL zW qh z6.out.2.2.1 z6.out.2.2.2.1 z6.out.2.2.2.2.1 qa zT zX q6 qi);clear KA zX q6 qi k2;go_wp2;go_roundw
     case rel=>exact⟨k+1,by have:=zn.out;omega,by go_num,HF⟩
     case measure=>have:=zn.out;simp[intOf];omega
   ·obtain rfl:k=es.length:=by omega
    obtain⟨v5,fr,fm,N5,nr,nm,R,h1,h2,h3,h4,h5,h6,h7,h8,h9⟩:=HH.out;have HF:=Lib.hid (DZ h1 (DZ h2 (DZ h3 (DZ h4 (DZ h5 (DZ h6 (DZ h7 h8)))))));clear h1 h2 h3 h4 h5 h6 h7 h8 h9;go_wp2;go_end0
    obtain⟨h1,h2,h3,h4,h5,h6,h7,h8⟩:=HF.out;have hR:=h2.len;rw[Nw,qx.out] at h1 h2 h6 h7;exact⟨rfl,v5,fr,fm,nr,nm,R,h1.moreN (by have:=HL.out;omega),h2,by have:=HL.out;omega,by omega,fun e=>⟨h6 e,h7 e⟩,h8⟩
theorem mv_one:∀(l:List ZO),∀u∈mv l,u.oneCell'=true
 |[],u,h=>by cases h
 |x::r,u,h=>by
  unfold mv at h;simp only[Nt] at h;rcases h with rfl|rfl|rfl|h
  ·rfl
  ·rfl
  ·rfl
  ·exact mv_one r u h
theorem cloneM_any(A:Option Addr)(c:Nat)(l:List ZO)(w:World)(B:Nat)(hB:B<=w.heap.size)(hm:l.length<=1000000000)(h:Qh w B A (mv l)):
  Calls prog 67 #[.slice A l.length c] w fun e w'=>∃A' c',e= .returned (.slice A' l.length c')/\w'.ownsRow w.heap.size 52 3 (.slice A' l.length c') l.length (mv l)/\Below w.heap.size w w':=by
 obtain⟨i0,hi,z5,z2,z3⟩:=info_parts Tryz.infoMapL;have z1:=LL (e:=52) (size:=3) (base:=w.heap.size) w #[] 0 (Na _) (by simp) (by rfl);cases A with
 |none=>
  have h0:l=[]:=by
   rcases l with _|⟨b,l⟩
   ·rfl
   ·obtain⟨_,h,_⟩:=h (by simp[mv]);cases h
  subst h0;have he:=fun w=>Lib.run_eql_slice_nil (P:=prog) w 47
  go_enter func67,ntmps67
  go_wp2_with fail
  go_ret;exact⟨none,0,rfl,Nb _ _ _ _,D6 _ _⟩
 |some ad=>
  have he:=fun w=>Lib.run_eql_slice_nil (P:=prog) w 47
  go_enter func67,ntmps67
  go_wp2_with (at_builtin;refine Qq _ rfl (.tmp 5) (.tmp 6) _ rfl w.heap.size 3 52 i0 _ 24 underlying47 hi z5 z2 z3 rfl (by decide) _ 0 [] rfl z1 _ (some ad) l.length c (mv l) rfl (mv_len l) (h.alloc hB _) (mv_one _) (by simp only[maxLen];omega) (by omega) (by simp) ?_;intro A' c' w2 z0 hg2 z4 _)
  simp only[ND,Np] at z0;go_ret;exact⟨A',c',by simp,z0,(Qd w _).trans z4⟩
theorem Qh.of_own_s{w:World}{base n c s:Nat}{e:TypeId}{A:Option Addr}{xs:List Value}(h:w.ownsRow base e s (.slice A n c) n xs):Qh w w.heap.size A xs:=fun hn=>by
 have h1:=h.1;rcases h.2 with⟨hv,hz⟩|⟨g,cap,cur,hv,hb,hg,_⟩
 ·subst hz;omega
 ·injection hv with a b c'
  subst a;have hc:=h.cells (g:=g) rfl;exact⟨⟨g,0,none⟩,rfl,(D0.1 hg).1,fun j u hj=>hc j u hj⟩
def JH(g base m:Nat)(s:Nat->Int)(fuel:Int)(bd br bm:Nat)(N nd nr nm:Nat)(fd fr fm:Int->Option Value)(R:List Int)(bs:List UInt8)(data:Int)(q:Int->Option Q4)(ids:List Int)(B2 c2:Nat)(A2:Option Addr)(w:World)(k:Nat)(u:Value)(W:World):Prop:=
 ∃v N' ds,Aud W g base m s fuel bd br bm (!((ids.take k).all fun i=>(q i).isSome)) N' nd nr nm fd fr fm v/\N'<=N+k/\ds.length<=k/\((!((ids.take k).all fun i=>(q i).isSome))=false->(ids.take k).mapM q=some ds)/\XL W base bs data fuel false R fm/\Qt W w.heap.size u ds/\
  W.ownsRow B2 3 1 (.slice A2 ids.length c2) ids.length (iv ids)/\Q3 g base w W/\w.heap.size<=W.heap.size/\∀d∈ds,d.maps.length<=18000000
theorem Uk{D:List Int}(p:Int->Bool){k:Nat}(hk:k<D.length):(D.take (k+1)).all p=((D.take k).all p&&p D[k]):=by
 rw[Nl hk,List.all_append];simp
theorem Qt.added{w w':World}{g base b0:Nat}{gc:Array Value}{gz:Nat×Nat}{v:Value}{ls:List Q4}(h:Qt w b0 v ls)(hg:w.heap[g]?=some (.cells gc 349 gz))(ht:Q3 g base w w'):Qt w' b0 v ls:=by
 obtain⟨us,e,h3,h4⟩:=h;exact⟨us,e,ht.own hg h3 (by decide) (by decide),fun x u hx=>ht.own hg (h4 x u hx) (by decide) (by decide)⟩
section
variable {g base m:Nat} {s:Nat->Int} {fuel:Int} {bd br bm:Nat} {N nd nr nm:Nat} {fd fr fm:Int->Option Value} {R:List Int} {bs:List UInt8} {data:Int} {q:Int->Option Q4} {ids:List Int} {B2 c2:Nat} {A2:Option Addr} {w W W1 W':World} {k:Nat} {u:Value}
theorem JH.flag(hk:k<ids.length)(hq:q ids[k]=none):(!((ids.take (k+1)).all fun i=>(q i).isSome))=true:=by rw[Uk _ hk,hq];simp
theorem JH.flag2(hk:k<ids.length){d:Q4}(hq:q ids[k]=some d):(!((ids.take (k+1)).all fun i=>(q i).isSome))=(!((ids.take k).all fun i=>(q i).isSome)):=by rw[Uk _ hk,hq];simp
theorem JH.no{v v':Value}{N':Nat}{ds:List Q4}(hk:k<ids.length)(hq:q ids[k]=none)(ha:Aud W g base m s fuel bd br bm (!((ids.take k).all fun i=>(q i).isSome)) N' nd nr nm fd fr fm v)(hN:N'<=N+k)(hl:ds.length<=k)(hm:XL W base bs data fuel false R fm)(ho:Qt W w.heap.size u ds)
  (hi:W.ownsRow B2 3 1 (.slice A2 ids.length c2) ids.length (iv ids)) (hb:Q3 g base w W) (hsz:w.heap.size<=W.heap.size) (hd:∀d∈ds,d.maps.length<=18000000)
  (hr:W'.heap[g]?=some (.cells ((auC v m s fuel bd br bm).setIfInBounds 0 v') 349)) (hdm:AuD W' base v' true (N'+1)) (ht:Q3 g base W W'):
  JH g base m s fuel bd br bm N nd nr nm fd fr fm R bs data q ids B2 c2 A2 w (k+1) u W':=by
 unfold JH;rw[JH.flag hk hq];exact⟨v',N'+1,ds,ha.added hr hdm ht,by omega,by omega,fun e=>(by cases e),hm.added ha.row ht,ho.added ha.row ht,ht.own ha.row hi (by decide) (by decide),hb.trans ht,D3 hsz ht.size,hd⟩
theorem JH.dev{v:Value}{N':Nat}{ds:List Q4}{d:Q4}{b:Bool}{uj u':Value}{xs:List Value}(hk:k<ids.length)(hqd:(q ids[k]=some d/\b=!((ids.take k).all fun i=>(q i).isSome))∨(q ids[k]=none/\b=true))
  (ha:Aud W g base m s fuel bd br bm b N' nd nr nm fd fr fm v) (hN:N'<=N+k+1) (hl:ds.length<=k) (hf:(!((ids.take k).all fun i=>(q i).isSome))=false->(ids.take k).mapM q=some ds) (hm:XL W base bs data fuel false R fm)
  (hbs:base<=w.heap.size) (hxs:W.ownsRow w.heap.size 49 5 u ds.length xs) (hnext:∀(d:Q4) (uj u':Value) (W':World),W.ownsRow w.heap.size 52 3 uj d.maps.length (mv d.maps)->W'.ownsRow w.heap.size 49 5 u' (ds.length+1) (xs++[.int .i64 d.id, .int .i64 d.tx, .int .i64 d.made, .int .i64 d.snapped,uj])->W.grownBy W' u.ownBlock->Qt W' w.heap.size u' (ds++[d]))
  (hi:W.ownsRow B2 3 1 (.slice A2 ids.length c2) ids.length (iv ids)) (hb:Q3 g base w W) (hsz:w.heap.size<=W.heap.size) (hd:∀d∈ds,d.maps.length<=18000000) (hd1:d.maps.length<=18000000)
  (huj:W.ownsRow w.heap.size 52 3 uj d.maps.length (mv d.maps)) (hu':W'.ownsRow w.heap.size 49 5 u' (ds.length+1) (xs++[.int .i64 d.id, .int .i64 d.tx, .int .i64 d.made, .int .i64 d.snapped,uj])) (hg:W.grownBy W' u.ownBlock):
  JH g base m s fuel bd br bm N nd nr nm fd fr fm R bs data q ids B2 c2 A2 w (k+1) u' W':=by
 have z1:W'.heap[g]?=some (.cells (auC v m s fuel bd br bm) 349):=(hg.block g (D0.1 ha.row).1 (Qi ha.row (by decide) hxs)).trans ha.row;obtain⟨dl,d1,d2,d3⟩:=ha.dmg;have ha':Aud W' g base m s fuel bd br bm b N' nd nr nm fd fr fm v:=⟨z1,⟨dl,d1.kept hg (Zk d1 hxs (by decide)),d2,d3⟩,ha.d.kept hg (ha.d.not_row hxs),ha.r.kept hg (ha.r.not_row hxs),ha.m.kept hg (ha.m.not_row hxs),D3 ha.bs hg.size,ha.b0,ha.ge,ha.de,ha.re,ha.me,ha.dr,ha.dm,ha.rm⟩;have hm':XL W' base bs data fuel false R fm:=⟨hm.nd,hm.rg,hm.mem,fun r x hx=>let⟨ms,a,b,c⟩:=hm.row r x hx;⟨ms,a.kept hg (Zk a hxs (by decide)),b,c⟩⟩
 have hb':Q3 g base w W':=hb.grown_new hg (fun i hi=>(hxs.lt i hi).1);have z0:∀b',b'=b->(b'=false->(ids.take (k+1)).mapM q=some (ds++[d]))->(!((ids.take (k+1)).all fun i=>(q i).isSome))=b'->JH g base m s fuel bd br bm N nd nr nm fd fr fm R bs data q ids B2 c2 A2 w (k+1) u' W':=fun b' e1 e2 e3=>by
  unfold JH;rw[e3];subst e1;exact⟨v,N',ds++[d],ha',by omega,by simp;omega,e2,hm',hnext d uj u' W' huj hu' hg,hi.kept hg (Zk hi hxs (by decide)),hb',D3 hsz hg.size,fun x hx=>by
   rcases NY.1 hx with hx|hx
   ·exact hd x hx
   ·obtain rfl:x=d:=by simpa using hx
    exact hd1⟩
 rcases hqd with⟨hq,z2⟩|⟨hq,z2⟩
 ·refine z0 _ z2.symm (fun e=>?_) (JH.flag2 hk hq);rw[Nl hk];exact Ey (hf e) hq
 ·exact z0 true z2.symm (fun e=>by cases e) (JH.flag hk hq)
end
end Go.Proofs.YtijcgllddnpmhaaGreatDoor
