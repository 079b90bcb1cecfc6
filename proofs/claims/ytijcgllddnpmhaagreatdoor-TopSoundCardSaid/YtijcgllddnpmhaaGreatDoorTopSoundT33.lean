/- TopSound: lemmas, part 33. -/
import Derived.Test.YtijcgllddnpmhaaGreatDoorTopSoundT30
import Derived.LoopN
import Derived.Test.YtijcgllddnpmhaaGreatDoorTopSoundT31
set_option maxRecDepth 100000
set_option maxHeartbeats 16000000
set_option linter.all false
namespace Go.Proofs.YtijcgllddnpmhaaGreatDoor
open Go.RowKit Go.Proofs.Tryz
theorem QW{w:World}{B e s q n c:Nat}{xs:List Value}(h:w.ownsRow B e s (.slice (some ⟨q,0,none⟩) n c) n xs)(j:Nat)(v:Value)(hj:xs[j]?=some v):w.cell? ⟨q,j,none⟩=some v:=by
 have:=h.cells (g:=q) rfl j v hj
 rwa[Zo,ND] at this
structure Ul(tree:Int)(l:List Qv)(k M:Nat):Prop where
 wd:QV tree true≠0
 ln:∀x∈l,(x.val.length:Int)=QV tree true/\0<=x.key/\x.key<=281474976710655
 nd:Yu tree l.length=1
 mx:ZE tree true=(M:Int)
 m0:0<M
 m1:M<=9223372036854775807
 sz:XH l.length M=[l.length]
 pt:Ek (QH tree true l)=0
 sl:Yb 2 ((k+1:Nat):Int) (Zi (QH tree true l))=0
 len:(QX 2 ((k+1:Nat):Int) (Zi (QH tree true l))).length=256
def VO(x:Qv):List Value:=[.int .i64 x.key, .string ⟨x.val.toArray⟩, .int .i64 x.at_]
theorem Tryz.infoIntL:(prog.info? 3).map (fun i=>(i.zero,i.size,i.bytes))=some (some (.int .i64 0),1,8):=by kernel_rfl
theorem Tryz.infoStrL:(prog.info? 9).map (fun i=>(i.zero,i.size,i.bytes))=some (some (.string ⟨#[]⟩),1,16):=by kernel_rfl
theorem Tryz.infoEntL:(prog.info? 146).map (fun i=>(i.zero,i.size,i.bytes))=some (some (.agg #[.int .i64 0, .string ⟨#[]⟩, .int .i64 0]),3,32):=by kernel_rfl
theorem YJ{w w':World}{b c:Nat}{cs:Array Value}{t:TypeId}{fz:Nat×Nat}(hc:w.heap[c]?=some (.cells cs t fz))(hg:w.grownBy w' (some b))(hne:c≠b):w'.heap[c]?=some (.cells cs t fz):=
 (hg.block c (D0.1 hc).1 (fun e=>hne (Nd e))).trans hc
theorem Zj{w:World}{B e s n c:Nat}{A:Option Addr}{xs:List Value}(h:w.ownsRow B e s (.slice A n c) n xs)(hn:0<n):∃q,A=some ⟨q,0,none⟩:=by
 rcases h.2 with⟨hv,hz⟩|⟨q,cap,cur,hv,hb,hg,_⟩
 ·omega
 ·injection hv with h1 h2 h4
  exact⟨q,h1⟩
theorem AlM.ib{h:AlC}{w:World}{bs:List UInt8}{k:Nat}(hA:AlM h w bs k):∀b,(Value.slice h.A 3072 h.c).ownBlock=some b->b<w.heap.size:=by
 have hl:=hA.len;intro b hb;exact(hA.img.2.1.lt b (by rw[hl];exact hb)).2
theorem AlM.pay{h:AlC}{w W:World}{bs:List UInt8}{k Bp e s n:Nat}{u:Value}{ys:List Value}(hA:AlM h w bs k)(hib:∀b,(Value.slice h.A 3072 h.c).ownBlock=some b->b<Bp)(ht:Q6 h w W)(hu:w.ownsRow Bp e s u n ys)(h1:e≠217):W.ownsRow Bp e s u n ys:=by
 refine⟨hu.1,?_⟩;rcases hu.2 with hn|⟨g2,z2,z1,hv,hb,z0,r⟩
 ·exact .inl hn
 ·refine .inr ⟨g2,z2,z1,hv,hb,?_,r⟩;refine(ht.block g2 (D0.1 z0).1 ?_ (fun e=>?_)).trans z0
  ·rintro rfl;rw[hA.box] at z0
   injection z0 with z0
   injection z0 with _ z0 _
   exact h1 z0.symm
  ·have:=hib g2 e.symm;omega
theorem Qh.of_nil(w:World)(B:Nat)(A:Option Addr):Qh w B A []:=fun hn=>absurd hn (by simp)
theorem right0_ok{w:World}{tree:Int}{k M:Nat}(A2:Option Addr)(c2:Nat)(hT:Ul tree [] k M):
  Calls prog 228 #[.int .i64 tree, .slice A2 0 c2] w fun e w'=>e= .returned (.bool true)/\Below w.heap.size w w':=by
 have KW:=Yn tree true w;have KN:=Yt tree 0 w;rw[show Yu tree 0=1 from hT.nd] at KN
 have z0:=hT.wd;have hz:(QV tree true==0)=false:=by rw[beq_eq_false_iff_ne];exact z0
 clear hT z0;generalize QV tree true=wd at*;go_enter func228,ntmps228
 go_wp2_with fail
 refine KW.mono ?_;rintro e w1 ⟨rfl,rfl⟩;clear KW;go_wp2_with fail
 refine KN.mono ?_;rintro e w2 ⟨rfl,hb⟩;have HB:=DY hb;clear KN hb;go_wp2_with fail
 refine wp_loop_rounds 1 ?_;rw[rounds_succ];go_wp2_with fail
 go_ret;exact⟨rfl,HB.out⟩
theorem right1_ok{w:World}{tree:Int}{k M:Nat}{x:Qv}{q c2 Bx:Nat}(ho:w.ownsRow Bx 146 3 (.slice (some ⟨q,0,none⟩) 1 c2) 1 (VO x))(hT:Ul tree [x] k M):
  Calls prog 228 #[.int .i64 tree, .slice (some ⟨q,0,none⟩) 1 c2] w fun e w'=>e= .returned (.bool true)/\Below w.heap.size w w':=by
 have KW:=Yn tree true w;have KN:=Yt tree 1 w;rw[show Yu tree 1=1 from hT.nd] at KN
 have z0:=hT.wd;obtain⟨hv,z1,z2⟩:=hT.ln x (by simp);rw[<-hv] at KW z0;have HO:=DY ho;have hz:((x.val.length:Int)==0)=false:=by rw[beq_eq_false_iff_ne];exact z0
 have e1:decide (x.key<= -1)=false:=decide_eq_false (by omega);have e2:decide (281474976710655<x.key)=false:=decide_eq_false (by omega);have e3:¬(x.key<= -1):=by omega
 have e4:¬(281474976710655<x.key):=by omega
 clear hT ho hv z0 z1 z2;unfold VO at HO;obtain⟨y0,y1,y2⟩:∃y0 y1 y2,y0=x.key/\y1=x.val/\y2=x.at_:=⟨_,_,_,rfl,rfl,rfl⟩;go_enter func228,ntmps228
 go_wp2_with fail
 refine KW.mono ?_;rintro e w1 ⟨rfl,rfl⟩;clear KW;go_wp2_with fail
 refine KN.mono ?_;rintro e w2 ⟨rfl,hb⟩;have HB:=DY hb;have h2:=Qk HO hb;have c0:=QW h2 0 _ rfl;have c1:=QW h2 1 _ rfl;have c2':=QW h2 2 _ rfl;clear KN hb;go_wp2_with fail
 refine wp_loop_rounds 2 ?_;rw[rounds_succ];go_wp2_with fail
 rw[rounds_succ];go_wp2_with fail
 go_ret;exact⟨rfl,HB.out.alloc HB.out.size _⟩
theorem level0_ok{h:AlC}{w:World}{bs:List UInt8}{k M:Nat}{tree:Int}(hA:AlM h w bs k)(hk:k<11)(A2:Option Addr)(c2:Nat)(hT:Ul tree [] k M):
  Calls prog 230 #[.pointer (some ⟨h.ga,0,none⟩), .int .i64 tree, .bool true, .slice A2 0 c2] w fun e w'=>∃qa ca key v,e= .returned (.tuple #[.slice (some ⟨qa,0,none⟩) 1 ca, .nilIface])/\w'.ownsRow w.heap.size 146 3 (.slice (some ⟨qa,0,none⟩) 1 ca) 1 [.int .i64 key, .string v, .int .i64 ((k+1:Nat):Int)]/\AlM h w' (QR bs (k+1) (QX 2 ((k+1:Nat):Int) (Zi (QH tree true [])))) (k+1)/\Q6 h w w':=by
 obtain⟨js,js0,js1,js2,js3⟩:=info_parts Tryz.infoIntL;obtain⟨ks,ks0,ks1,ks2,ks3⟩:=info_parts Tryz.infoStrL;obtain⟨es,zT,zQ,zN,zK⟩:=info_parts Tryz.infoEntL;have KM:=YZ tree true w;rw[hT.mx] at KM;have KS:=RL 0 M (by omega) hT.m0 hT.m1 w;rw[show XH 0 M=[0] from hT.sz] at KS
 have KP:Hid (∀(W:World) (A A2:Option Addr) (c c2:Nat),OW W W.heap.size (QH tree true []) A c A2 c2->Calls prog 254 #[.agg #[.int .i64 tree, .bool true, .slice A 0 c, .slice A2 0 c2]] W (Xl 5 (bv (Zi (QH tree true []))) 0 W)):=DY fun W A A2 c c2 hR=>by
  have:=RW hR (by simp[QH]) (by simp[QH]);rw[hT.pt] at this;exact this
 have KL:Hid (∀(W:World),AlM h W bs k->∀(A3:Option Addr) (c3:Nat),(∀U,Q6 h W U->Qh U U.heap.size A3 (bv (Zi (QH tree true []))))->Calls prog 180 #[.pointer (some ⟨h.ga,0,none⟩), .int .i64 2, .slice A3 (Zi (QH tree true [])).length c3] W fun e w'=>e= .returned (.tuple #[.int .i64 ((k+1:Nat):Int), .nilIface])/\AlM h w' (QR bs (k+1) (QX 2 ((k+1:Nat):Int) (Zi (QH tree true [])))) (k+1)/\Q6 h W w'):=DY fun W hW A3 c3 hr=>UE hW hk 2 (by decide) A3 c3 _ hT.sl hT.len hr
 have KR:=DY (fun(W:World)=>Uo ((k+1:Nat):Int) W (by rw[Ge];omega));have HA:=DY hA;have zH:=hA.ib;have zU:=DY zH;clear hA hk hT zH;have zV:Hid (QH tree true []=⟨tree,true,[],[]⟩):=DY rfl;generalize QH tree true []=nd at*;generalize QR bs (k+1) (QX 2 ((k+1:Nat):Int) (Zi nd))=nb at*;generalize ((k+1:Nat):Int)=k1 at*;generalize Zi nd=pn at*;go_enter func230,ntmps230
 go_wp2_with fail
 refine KM.mono ?_;rintro e w1 ⟨rfl,rfl⟩;clear KM;go_wp2_with fail
 refine KS.mono ?_;rintro e w2 ⟨A3,c3,rfl,zt,zE⟩;rw[show(nv [0]).length=1 from rfl] at zt ⊢
 obtain⟨q3,rfl⟩:=Zj zt (by omega);have s0:=QW zt 0 (.int .i64 0) rfl;have zO:=DY zE;clear KS zt zE;go_wp2_with fail
 refine wp_loop_rounds 2 ?_;rw[rounds_succ];obtain⟨w3,zC,zG,zF⟩:=DS w2 (.cells #[.int .i64 tree, .bool true, .slice none 0 0, .slice none 0 0] 113);have zZ:=DY (Qb zO zG);have zI:=DY zF;clear zG zF;go_upto_region 6 with fail
 rw[<-zC];clear zC s0;go_wp2_with fail
 refine wp_loop_rounds 1 ?_;rw[rounds_succ];obtain⟨zu,z9⟩:=DR w3;have zm:=DY (show Below w.heap.size w zu by rw[z9];exact zZ.out);have z6:=DY (show zu.heap[w2.heap.size]?=some (.cells #[.int .i64 tree, .bool true, .slice none 0 0, .slice none 0 0] 113) by rw[z9];exact zI.out);rw[<-z9];clear z9;have zR:=Qa z6 0 rfl;have zW:=Qa z6 1 rfl;have zS:=Qa z6 2 rfl;have zL:=Qa z6 3 rfl;have K2:=KP.out zu none none 0 0 (by
  rw[zV.out];exact⟨Qh.of_nil _ _ _,Qh.of_nil _ _ _,Na _,Nat.le_refl _⟩)
 go_wp2_with fail
 refine K2.mono ?_;rintro e zJ ⟨zP,zX,rfl,zh,zg⟩;rw[Qm] at zh ⊢;have zr:=DY (Qb zm zg);have zA:=DY (Qe z6 zg);have za:=HA.out.below zr;have K3:=KL.out zJ za zP zX (fun U hU=>Qh.of_own (za.pay (fun b hb=>Nh (zU.out b hb) zm.out.size) hU zh (by decide)))
 clear K2 zR zW zS zL zh zg;go_wp2_with fail
 refine K3.mono ?_;rintro e zz ⟨rfl,zq,zi⟩;have zv:=DY zq;have zk:=DY ((Q6.of_below zr).trans zi);have zo:=DY (za.keep zi zA.out (by decide) (by decide));clear K3 za zq zi;go_wp2_with fail
 refine(KR.out zz).mono ?_;rintro e ze ⟨rfl,z8⟩;generalize XF [(QB,k1)]=rv at*;obtain⟨zD,zn,zs,zf⟩:=DS ze (.cells #[.int .i64 0, .string ⟨rv.toArray⟩, .int .i64 k1] 146);have z3:=DY (Qb z8 zs);have zx:=DY z8.size;have HE14:=DY zf;have zy:=Qe zo z3;have zl:w2.heap.size<ze.heap.size:=Nh (D0.1 zo).1 z8.size;have HS13:=DY zl;clear z8 zs zy zl;obtain⟨zc,zb⟩:=DR zD;have z7:zc.heap[ze.heap.size]?=some (.cells #[.int .i64 0, .string ⟨rv.toArray⟩, .int .i64 k1] 146):=by rw[zb];exact zf
 have zB:=DY (show Below ze.heap.size zD zc by rw[zb];exact D6 _ _);clear zf;go_upto_region 22 with fail
 rw[<-zn,<-zb];clear zn zb;have z0:zc.cell? ⟨ze.heap.size,0,none⟩=some (.int .i64 0):=Qa z7 0 rfl;have z1:zc.cell? ⟨ze.heap.size,1,none⟩=some (.string ⟨rv.toArray⟩):=Qa z7 1 rfl;have z2:zc.cell? ⟨ze.heap.size,2,none⟩=some (.int .i64 k1):=Qa z7 2 rfl;have zp:=DY (show Below zz.heap.size zz zc from z3.out.trans (zB.out.mono zx));clear z7;go_upto_region 23 with(at_builtin;refine Qq _ rfl (.tmp 90) (.tmp 92) _ rfl zc.heap.size 3 146 es _ 32 underlying137 zT zQ zN zK rfl (by decide) (.slice none 0 0) 0 [] rfl (Nb _ _ _ _) _ _ 1 1 [.int .i64 0, .string ⟨rv.toArray⟩, .int .i64 k1] rfl rfl (Qh.new zc [.int .i64 0, .string ⟨rv.toArray⟩, .int .i64 k1] 146 (0,0)) (by simp[Value.oneCell']) (by simp only[maxLen];omega) (by omega) (by simp) ?_;intro A16 zM w16 z4 zw zd _;have HF:=DY (DZ z4 ((Qd zc (.cells #[.int .i64 0, .string ⟨rv.toArray⟩, .int .i64 k1] 146)).trans zd));clear z4 zw zd)
 clear z0 z1 z2;go_wp2_with fail
 rw[rounds_succ];go_wp2;go_ret2
 obtain⟨zj,zd⟩:=HF.out;obtain⟨zY,rfl⟩:=Zj zj (by omega);have z5:=Qb zp zd;exact⟨zY,zM,0,_,rfl,QO zj (D3 zk.out.size zp.out.size),zv.out.below z5,zk.out.trans (Q6.of_below z5)⟩
theorem level1a_ok{h:AlC}{w:World}{bs:List UInt8}{k M:Nat}{tree:Int}(hA:AlM h w bs k)(hk:k<11){x:Qv}{q c2 Bx:Nat}(ho:w.ownsRow Bx 146 3 (.slice (some ⟨q,0,none⟩) 1 c2) 1 (VO x))(hT:Ul tree [x] k M)(hce:c2=1):
  Calls prog 230 #[.pointer (some ⟨h.ga,0,none⟩), .int .i64 tree, .bool true, .slice (some ⟨q,0,none⟩) 1 c2] w fun e w'=>∃qa ca key v,e= .returned (.tuple #[.slice (some ⟨qa,0,none⟩) 1 ca, .nilIface])/\w'.ownsRow w.heap.size 146 3 (.slice (some ⟨qa,0,none⟩) 1 ca) 1 [.int .i64 key, .string v, .int .i64 ((k+1:Nat):Int)]/\AlM h w' (QR bs (k+1) (QX 2 ((k+1:Nat):Int) (Zi (QH tree true [x])))) (k+1)/\Q6 h w w':=by
 obtain⟨js,qr,qs,qu,qG⟩:=info_parts Tryz.infoIntL;obtain⟨ks,qA,qj,qv,qn⟩:=info_parts Tryz.infoStrL;obtain⟨es,qQ,qD,qm,ql⟩:=info_parts Tryz.infoEntL;have KM:=YZ tree true w;rw[hT.mx] at KM;have KS:=RL 1 M (by omega) hT.m0 hT.m1 w;rw[show XH 1 M=[1] from hT.sz] at KS
 have KP:Hid (∀(W:World) (A A2:Option Addr) (c c2:Nat),OW W W.heap.size (QH tree true [x]) A c A2 c2->Calls prog 254 #[.agg #[.int .i64 tree, .bool true, .slice A 1 c, .slice A2 1 c2]] W (Xl 5 (bv (Zi (QH tree true [x]))) 0 W)):=DY fun W A A2 c c2 hR=>by
  have:=RW hR (by simp[QH]) (by simp[QH]);rw[hT.pt] at this;exact this
 have KL:Hid (∀(W:World),AlM h W bs k->∀(A3:Option Addr) (c3:Nat),(∀U,Q6 h W U->Qh U U.heap.size A3 (bv (Zi (QH tree true [x]))))->Calls prog 180 #[.pointer (some ⟨h.ga,0,none⟩), .int .i64 2, .slice A3 (Zi (QH tree true [x])).length c3] W fun e w'=>e= .returned (.tuple #[.int .i64 ((k+1:Nat):Int), .nilIface])/\AlM h w' (QR bs (k+1) (QX 2 ((k+1:Nat):Int) (Zi (QH tree true [x])))) (k+1)/\Q6 h W w'):=DY fun W hW A3 c3 hr=>UE hW hk 2 (by decide) A3 c3 _ hT.sl hT.len hr
 have KR:=DY (fun(W:World)=>Uo ((k+1:Nat):Int) W (by rw[Ge];omega));have HA:=DY hA;have qg:=hA.ib;have qx:=DY qg;have HO:=DY ho;unfold VO at HO;have hc1:¬((c2:Int)<1):=by have:=YI ho;omega
 have DU:¬(c2<1):=by have:=YI ho;omega
 clear hA hk hT qg ho;have qS:Hid (QH tree true [x]=⟨tree,true,[x.key],[x.val]⟩):=DY rfl;generalize QH tree true [x]=nd at*;generalize QR bs (k+1) (QX 2 ((k+1:Nat):Int) (Zi nd))=nb at*;generalize ((k+1:Nat):Int)=k1 at*;generalize Zi nd=pn at*;go_enter func230,ntmps230
 go_wp2_with fail
 refine KM.mono ?_;rintro e w1 ⟨rfl,rfl⟩;clear KM;go_wp2_with fail
 refine KS.mono ?_;rintro e w2 ⟨A3,c3,rfl,ze,q4⟩;rw[show(nv [1]).length=1 from rfl] at ze ⊢
 obtain⟨q3,rfl⟩:=Zj ze (by omega);have s0:=QW ze 0 (.int .i64 1) rfl;have q0:=DY q4;clear KS ze q4;go_wp2_with fail
 refine wp_loop_rounds 2 ?_;rw[rounds_succ];obtain⟨w3,q6,qf,qe⟩:=DS w2 (.cells #[.int .i64 tree, .bool true, .slice none 0 0, .slice none 0 0] 113);have q5:=DY (Qb q0 qf);have q9:=DY qe;have ze:=Qk HO q5;have c0:=QW ze 0 _ rfl;have c1:=QW ze 1 _ rfl;have c2':=QW ze 2 _ rfl;clear qf qe ze;go_upto_region 6 with fail
 rw[<-q6];clear q6 s0;go_wp2_with fail
 refine wp_loop_rounds 2 ?_;rw[rounds_succ];obtain⟨w4,qi,q1,zX⟩:=DS w3 (.cells #[.int .i64 x.key, .string ⟨x.val.toArray⟩, .int .i64 x.at_] 146);have zS:=Qe q9 q1;have n2:w4.cell? ⟨w2.heap.size,2,none⟩=some (.slice none 0 0):=Qa zS 2 rfl;have x0:w4.cell? ⟨w3.heap.size,0,none⟩=some (.int .i64 x.key):=Qa zX 0 rfl;have qE:=DY (Qb q5 q1);have qC:=DY zS;have qK:=DY zX;clear q1 zX zS;go_upto_region 9 with fail
 rw[<-qi];clear qi c0 c1 c2';go_upto_region 10 with(at_builtin;refine Qq _ rfl (.tmp 44) (.tmp 47) _ rfl w4.heap.size 1 3 js _ 8 underlying68 qr qs qu qG rfl (by decide) (.slice none 0 0) 0 [] rfl (Nb _ _ _ _) _ _ 1 1 [.int .i64 x.key] rfl rfl (Qh.new w4 [.int .i64 x.key] 3 (0,0)) (by simp[Value.oneCell']) (by simp only[maxLen];omega) (by omega) (by simp) ?_;intro A7 c7 w7 zj qM qb _;have zp:=(Qd w4 (.cells #[.int .i64 x.key] 3)).trans qb;have zE:=DY (Qe qC.out zp);have zy:=DY zp;have qh:Hid (w7.ownsRow w4.heap.size 3 1 (.slice A7 1 c7) 1 [.int .i64 x.key]):=DY zj;have qt:=Qa zE.out 2 rfl;have qy:=Qf zE.out 2;clear zj qM qb zp)
 obtain⟨w8,zL⟩:=DR (w7.setCell ⟨w2.heap.size,2,none⟩ (.slice A7 1 c7));have zK:w7.grownBy w8 (some w2.heap.size):=by rw[zL];exact Qo w7 _ _ _
 have zO:w8.heap[w2.heap.size]?=some (.cells #[.int .i64 tree, .bool true, .slice A7 1 c7, .slice none 0 0] 113):=by rw[zL,heap_setCell_same w7 _ 2 _ _ _ zE];rfl
 have qI:=DY (qh.out.kept zK (.inr (Qi zE.out (by decide) qh.out).symm));have qd:=YJ (Qe qK zy) zK (by have:=(D0.1 q9).1;omega);have qJ:=DY zK;have qR:=DY zO;have n3:w8.cell? ⟨w2.heap.size,3,none⟩=some (.slice none 0 0):=Qa zO 3 rfl;have x1:w8.cell? ⟨w3.heap.size,1,none⟩=some (.string ⟨x.val.toArray⟩):=Qa qd 1 rfl;clear zK zO qd n2 x0 qt qy;rw[<-zL];clear zL;go_upto_region 11 with(at_builtin;refine Qq _ rfl (.tmp 51) (.tmp 54) _ rfl w8.heap.size 1 9 ks _ 16 underlying111 qA qj qv qn rfl (by decide) (.slice none 0 0) 0 [] rfl (Nb _ _ _ _) _ _ 1 1 [.string ⟨x.val.toArray⟩] rfl rfl (Qh.new w8 [.string ⟨x.val.toArray⟩] 9 (0,0)) (by simp[Value.oneCell']) (by simp only[maxLen];omega) (by omega) (by simp) ?_;intro A9 c9 w9 zk qP q8 _;have zn:=(Qd w8 (.cells #[.string ⟨x.val.toArray⟩] 9)).trans q8;have zs:=DY (Qe qR.out zn);have zD:=DY zn;have qc:Hid (w9.ownsRow w8.heap.size 9 1 (.slice A9 1 c9) 1 [.string ⟨x.val.toArray⟩]):=DY zk;have qp:=Qa zs.out 3 rfl;have qq:=Qf zs.out 3;clear zk qP q8 zn)
 obtain⟨zM,zc⟩:=DR (w9.setCell ⟨w2.heap.size,3,none⟩ (.slice A9 1 c9));have zf:w9.grownBy zM (some w2.heap.size):=by rw[zc];exact Qo w9 _ _ _
 have zo:zM.heap[w2.heap.size]?=some (.cells #[.int .i64 tree, .bool true, .slice A7 1 c7, .slice A9 1 c9] 113):=by rw[zc,heap_setCell_same w9 _ 3 _ _ _ zs];rfl
 have zW:=DY zo;have zB:=DY (qc.out.kept zf (.inr (Qi zs.out (by decide) qc.out).symm));have zQ:=Qk qI zD;have zl:=DY (zQ.kept zf (.inr (Qi zs.out (by decide) zQ).symm));have qk:w2.heap.size<=w7.heap.size:=by have:=(D0.1 zE).1;omega
 have zA:=DY (show Below w.heap.size w zM from by
  have b7:=Qb qE zy;have b8:=b7.grown qJ b7.size (fun k hk=>by cases hk;exact q0.out.size);have b9:=Qb b8 zD;exact b9.grown zf b9.size (fun k hk=>by cases hk;exact q0.out.size))
 obtain⟨qo,qL,zR,qN⟩:=DW zo;clear zf zo zQ qk n3 x1 qp qq;rw[<-zc];clear zc;go_wp2_with fail
 rw[rounds_succ];have K2:=KP.out zM A7 A9 c7 c9 (by
  rw[qS.out];exact⟨Qh.of_own zl,Qh.of_own zB,Ri zl (N7 0),Ri zB (N7 0)⟩)
 go_wp2_with fail
 refine K2.mono ?_;rintro e qF ⟨qw,qz,rfl,zm,zg⟩;rw[Qm] at zm ⊢;have zw:=DY (Qb zA zg);have zV:=DY (Qe zW zg);have z7:=HA.out.below zw;have K3:=KL.out qF z7 qw qz (fun U hU=>Qh.of_own (z7.pay (fun b hb=>Nh (qx.out b hb) zA.out.size) hU zm (by decide)))
 have zY:=DY (Qk zl zg);clear K2 qo qL zR qN zm zg;go_wp2_with fail
 refine K3.mono ?_;rintro e zU ⟨rfl,zH,zi⟩;have zN:=DY zH;have zC:=DY ((Q6.of_below zw).trans zi);have zv:=DY (z7.keep zi zV.out (by decide) (by decide));have zZ:=DY (z7.own zi zY.out (by decide) (by decide));clear K3 z7 zH zi;go_wp2_with fail
 refine(KR.out zU).mono ?_;rintro e z8 ⟨rfl,za⟩;generalize XF [(QB,k1)]=rv at*;obtain⟨zq,zG,zI,zb⟩:=DS z8 (.cells #[.int .i64 0, .string ⟨rv.toArray⟩, .int .i64 k1] 146);have z3:=DY (Qb za zI);have zT:=DY za.size;have zt:=DY zb;have zF:=Qe zv z3;have zu:w2.heap.size<z8.heap.size:=Nh (D0.1 zv).1 za.size;have HS13:=DY zu;have zR:zq.cell? ⟨w2.heap.size,2,none⟩=some (.slice A7 1 c7):=Qa zF 2 rfl;have zr:=Qk zZ z3;obtain⟨q7,rfl⟩:=Zj zr (by omega);have y7:=QW zr 0 (.int .i64 x.key) rfl;have e0:zq.cell? ⟨z8.heap.size,0,none⟩=some (.int .i64 0):=Qa zb 0 rfl;have qH:=Qf zb 0;clear za zI zb zF zu zr;go_upto_region 20 with fail
 rw[<-zG];clear zG;obtain⟨w15,zh⟩:=DR (zq.setCell ⟨z8.heap.size,0,none⟩ (.int .i64 x.key));have z4:zq.grownBy w15 (some z8.heap.size):=by rw[zh];exact Qo zq _ _ _
 have z9:w15.heap[z8.heap.size]?=some (.cells #[.int .i64 x.key, .string ⟨rv.toArray⟩, .int .i64 k1] 146):=by rw[zh,heap_setCell_same zq _ 0 _ _ _ zt];rfl
 have zJ:Below z8.heap.size zq w15:=⟨z4.os,z4.tape,z4.output,z4.size,fun k hk=>z4.block k (Nh hk (Lk (D0.1 zt).1)) (fun e=>by have:=Nd e;omega)⟩
 have q2:=DY zJ;go_upto_region 22 with fail
 rw[<-zh];clear zh zR y7 e0 qH;have z0:w15.cell? ⟨z8.heap.size,0,none⟩=some (.int .i64 x.key):=Qa z9 0 rfl;have z1:w15.cell? ⟨z8.heap.size,1,none⟩=some (.string ⟨rv.toArray⟩):=Qa z9 1 rfl;have z2:w15.cell? ⟨z8.heap.size,2,none⟩=some (.int .i64 k1):=Qa z9 2 rfl;have zz:=DY (show Below zU.heap.size zU w15 from z3.out.trans (q2.out.mono zT));clear z9 z4 zJ;go_upto_region 23 with(at_builtin;refine Qq _ rfl (.tmp 90) (.tmp 92) _ rfl w15.heap.size 3 146 es _ 32 underlying137 qQ qD qm ql rfl (by decide) (.slice none 0 0) 0 [] rfl (Nb _ _ _ _) _ _ 1 1 [.int .i64 x.key, .string ⟨rv.toArray⟩, .int .i64 k1] rfl rfl (Qh.new w15 [.int .i64 x.key, .string ⟨rv.toArray⟩, .int .i64 k1] 146 (0,0)) (by simp[Value.oneCell']) (by simp only[maxLen];omega) (by omega) (by simp) ?_;intro A16 qO w16 z5 zP zd _;have HF:=DY (DZ z5 ((Qd w15 (.cells #[.int .i64 x.key, .string ⟨rv.toArray⟩, .int .i64 k1] 146)).trans zd));clear z5 zP zd)
 clear z0 z1 z2;go_wp2_with fail
 rw[rounds_succ];go_wp2;go_ret2
 obtain⟨zx,zd⟩:=HF.out;obtain⟨qB,rfl⟩:=Zj zx (by omega);have z6:=Qb zz zd;exact⟨qB,qO,x.key,_,rfl,QO zx (D3 zC.out.size zz.out.size),zN.out.below z6,zC.out.trans (Q6.of_below z6)⟩
theorem level1b_ok{h:AlC}{w:World}{bs:List UInt8}{k M:Nat}{tree:Int}(hA:AlM h w bs k)(hk:k<11){x:Qv}{q c2 Bx:Nat}(ho:w.ownsRow Bx 146 3 (.slice (some ⟨q,0,none⟩) 1 c2) 1 (VO x))(hT:Ul tree [x] k M)(hce:¬c2=1):
  Calls prog 230 #[.pointer (some ⟨h.ga,0,none⟩), .int .i64 tree, .bool true, .slice (some ⟨q,0,none⟩) 1 c2] w fun e w'=>∃qa ca key v,e= .returned (.tuple #[.slice (some ⟨qa,0,none⟩) 1 ca, .nilIface])/\w'.ownsRow w.heap.size 146 3 (.slice (some ⟨qa,0,none⟩) 1 ca) 1 [.int .i64 key, .string v, .int .i64 ((k+1:Nat):Int)]/\AlM h w' (QR bs (k+1) (QX 2 ((k+1:Nat):Int) (Zi (QH tree true [x])))) (k+1)/\Q6 h w w':=by
 obtain⟨js,qr,qs,qu,qG⟩:=info_parts Tryz.infoIntL;obtain⟨ks,qA,qj,qv,qn⟩:=info_parts Tryz.infoStrL;obtain⟨es,qQ,qD,qm,ql⟩:=info_parts Tryz.infoEntL;have KM:=YZ tree true w;rw[hT.mx] at KM;have KS:=RL 1 M (by omega) hT.m0 hT.m1 w;rw[show XH 1 M=[1] from hT.sz] at KS
 have KP:Hid (∀(W:World) (A A2:Option Addr) (c c2:Nat),OW W W.heap.size (QH tree true [x]) A c A2 c2->Calls prog 254 #[.agg #[.int .i64 tree, .bool true, .slice A 1 c, .slice A2 1 c2]] W (Xl 5 (bv (Zi (QH tree true [x]))) 0 W)):=DY fun W A A2 c c2 hR=>by
  have:=RW hR (by simp[QH]) (by simp[QH]);rw[hT.pt] at this;exact this
 have KL:Hid (∀(W:World),AlM h W bs k->∀(A3:Option Addr) (c3:Nat),(∀U,Q6 h W U->Qh U U.heap.size A3 (bv (Zi (QH tree true [x]))))->Calls prog 180 #[.pointer (some ⟨h.ga,0,none⟩), .int .i64 2, .slice A3 (Zi (QH tree true [x])).length c3] W fun e w'=>e= .returned (.tuple #[.int .i64 ((k+1:Nat):Int), .nilIface])/\AlM h w' (QR bs (k+1) (QX 2 ((k+1:Nat):Int) (Zi (QH tree true [x])))) (k+1)/\Q6 h W w'):=DY fun W hW A3 c3 hr=>UE hW hk 2 (by decide) A3 c3 _ hT.sl hT.len hr
 have KR:=DY (fun(W:World)=>Uo ((k+1:Nat):Int) W (by rw[Ge];omega));have HA:=DY hA;have qg:=hA.ib;have qx:=DY qg;have HO:=DY ho;unfold VO at HO;have hc1:¬((c2:Int)<1):=by have:=YI ho;omega
 have DU:¬(c2<1):=by have:=YI ho;omega
 clear hA hk hT qg ho;have qS:Hid (QH tree true [x]=⟨tree,true,[x.key],[x.val]⟩):=DY rfl;generalize QH tree true [x]=nd at*;generalize QR bs (k+1) (QX 2 ((k+1:Nat):Int) (Zi nd))=nb at*;generalize ((k+1:Nat):Int)=k1 at*;generalize Zi nd=pn at*;go_enter func230,ntmps230
 go_wp2_with fail
 refine KM.mono ?_;rintro e w1 ⟨rfl,rfl⟩;clear KM;go_wp2_with fail
 refine KS.mono ?_;rintro e w2 ⟨A3,c3,rfl,ze,q4⟩;rw[show(nv [1]).length=1 from rfl] at ze ⊢
 obtain⟨q3,rfl⟩:=Zj ze (by omega);have s0:=QW ze 0 (.int .i64 1) rfl;have q0:=DY q4;clear KS ze q4;go_wp2_with fail
 refine wp_loop_rounds 2 ?_;rw[rounds_succ];obtain⟨w3,q6,qf,qe⟩:=DS w2 (.cells #[.int .i64 tree, .bool true, .slice none 0 0, .slice none 0 0] 113);have q5:=DY (Qb q0 qf);have q9:=DY qe;have ze:=Qk HO q5;have c0:=QW ze 0 _ rfl;have c1:=QW ze 1 _ rfl;have c2':=QW ze 2 _ rfl;clear qf qe ze;go_upto_region 6 with fail
 rw[<-q6];clear q6 s0;go_wp2_with fail
 refine wp_loop_rounds 2 ?_;rw[rounds_succ];obtain⟨w4,qi,q1,zX⟩:=DS w3 (.cells #[.int .i64 x.key, .string ⟨x.val.toArray⟩, .int .i64 x.at_] 146);have zS:=Qe q9 q1;have n2:w4.cell? ⟨w2.heap.size,2,none⟩=some (.slice none 0 0):=Qa zS 2 rfl;have x0:w4.cell? ⟨w3.heap.size,0,none⟩=some (.int .i64 x.key):=Qa zX 0 rfl;have qE:=DY (Qb q5 q1);have qC:=DY zS;have qK:=DY zX;clear q1 zX zS;go_upto_region 9 with fail
 rw[<-qi];clear qi c0 c1 c2';go_upto_region 10 with(at_builtin;refine Qq _ rfl (.tmp 44) (.tmp 47) _ rfl w4.heap.size 1 3 js _ 8 underlying68 qr qs qu qG rfl (by decide) (.slice none 0 0) 0 [] rfl (Nb _ _ _ _) _ _ 1 1 [.int .i64 x.key] rfl rfl (Qh.new w4 [.int .i64 x.key] 3 (0,0)) (by simp[Value.oneCell']) (by simp only[maxLen];omega) (by omega) (by simp) ?_;intro A7 c7 w7 zj qM qb _;have zp:=(Qd w4 (.cells #[.int .i64 x.key] 3)).trans qb;have zE:=DY (Qe qC.out zp);have zy:=DY zp;have qh:Hid (w7.ownsRow w4.heap.size 3 1 (.slice A7 1 c7) 1 [.int .i64 x.key]):=DY zj;have qt:=Qa zE.out 2 rfl;have qy:=Qf zE.out 2;clear zj qM qb zp)
 obtain⟨w8,zL⟩:=DR (w7.setCell ⟨w2.heap.size,2,none⟩ (.slice A7 1 c7));have zK:w7.grownBy w8 (some w2.heap.size):=by rw[zL];exact Qo w7 _ _ _
 have zO:w8.heap[w2.heap.size]?=some (.cells #[.int .i64 tree, .bool true, .slice A7 1 c7, .slice none 0 0] 113):=by rw[zL,heap_setCell_same w7 _ 2 _ _ _ zE];rfl
 have qI:=DY (qh.out.kept zK (.inr (Qi zE.out (by decide) qh.out).symm));have qd:=YJ (Qe qK zy) zK (by have:=(D0.1 q9).1;omega);have qJ:=DY zK;have qR:=DY zO;have n3:w8.cell? ⟨w2.heap.size,3,none⟩=some (.slice none 0 0):=Qa zO 3 rfl;have x1:w8.cell? ⟨w3.heap.size,1,none⟩=some (.string ⟨x.val.toArray⟩):=Qa qd 1 rfl;clear zK zO qd n2 x0 qt qy;rw[<-zL];clear zL;go_upto_region 11 with(at_builtin;refine Qq _ rfl (.tmp 51) (.tmp 54) _ rfl w8.heap.size 1 9 ks _ 16 underlying111 qA qj qv qn rfl (by decide) (.slice none 0 0) 0 [] rfl (Nb _ _ _ _) _ _ 1 1 [.string ⟨x.val.toArray⟩] rfl rfl (Qh.new w8 [.string ⟨x.val.toArray⟩] 9 (0,0)) (by simp[Value.oneCell']) (by simp only[maxLen];omega) (by omega) (by simp) ?_;intro A9 c9 w9 zk qP q8 _;have zn:=(Qd w8 (.cells #[.string ⟨x.val.toArray⟩] 9)).trans q8;have zs:=DY (Qe qR.out zn);have zD:=DY zn;have qc:Hid (w9.ownsRow w8.heap.size 9 1 (.slice A9 1 c9) 1 [.string ⟨x.val.toArray⟩]):=DY zk;have qp:=Qa zs.out 3 rfl;have qq:=Qf zs.out 3;clear zk qP q8 zn)
 obtain⟨zM,zc⟩:=DR (w9.setCell ⟨w2.heap.size,3,none⟩ (.slice A9 1 c9));have zf:w9.grownBy zM (some w2.heap.size):=by rw[zc];exact Qo w9 _ _ _
 have zo:zM.heap[w2.heap.size]?=some (.cells #[.int .i64 tree, .bool true, .slice A7 1 c7, .slice A9 1 c9] 113):=by rw[zc,heap_setCell_same w9 _ 3 _ _ _ zs];rfl
 have zW:=DY zo;have zB:=DY (qc.out.kept zf (.inr (Qi zs.out (by decide) qc.out).symm));have zQ:=Qk qI zD;have zl:=DY (zQ.kept zf (.inr (Qi zs.out (by decide) zQ).symm));have qk:w2.heap.size<=w7.heap.size:=by have:=(D0.1 zE).1;omega
 have zA:=DY (show Below w.heap.size w zM from by
  have b7:=Qb qE zy;have b8:=b7.grown qJ b7.size (fun k hk=>by cases hk;exact q0.out.size);have b9:=Qb b8 zD;exact b9.grown zf b9.size (fun k hk=>by cases hk;exact q0.out.size))
 obtain⟨qo,qL,zR,qN⟩:=DW zo;clear zf zo zQ qk n3 x1 qp qq;rw[<-zc];clear zc;go_wp2_with fail
 rw[rounds_succ];have K2:=KP.out zM A7 A9 c7 c9 (by
  rw[qS.out];exact⟨Qh.of_own zl,Qh.of_own zB,Ri zl (N7 0),Ri zB (N7 0)⟩)
 go_wp2_with fail
 refine K2.mono ?_;rintro e qF ⟨qw,qz,rfl,zm,zg⟩;rw[Qm] at zm ⊢;have zw:=DY (Qb zA zg);have zV:=DY (Qe zW zg);have z7:=HA.out.below zw;have K3:=KL.out qF z7 qw qz (fun U hU=>Qh.of_own (z7.pay (fun b hb=>Nh (qx.out b hb) zA.out.size) hU zm (by decide)))
 have zY:=DY (Qk zl zg);clear K2 qo qL zR qN zm zg;go_wp2_with fail
 refine K3.mono ?_;rintro e zU ⟨rfl,zH,zi⟩;have zN:=DY zH;have zC:=DY ((Q6.of_below zw).trans zi);have zv:=DY (z7.keep zi zV.out (by decide) (by decide));have zZ:=DY (z7.own zi zY.out (by decide) (by decide));clear K3 z7 zH zi;go_wp2_with fail
 refine(KR.out zU).mono ?_;rintro e z8 ⟨rfl,za⟩;generalize XF [(QB,k1)]=rv at*;obtain⟨zq,zG,zI,zb⟩:=DS z8 (.cells #[.int .i64 0, .string ⟨rv.toArray⟩, .int .i64 k1] 146);have z3:=DY (Qb za zI);have zT:=DY za.size;have zt:=DY zb;have zF:=Qe zv z3;have zu:w2.heap.size<z8.heap.size:=Nh (D0.1 zv).1 za.size;have HS13:=DY zu;have zR:zq.cell? ⟨w2.heap.size,2,none⟩=some (.slice A7 1 c7):=Qa zF 2 rfl;have zr:=Qk zZ z3;obtain⟨q7,rfl⟩:=Zj zr (by omega);have y7:=QW zr 0 (.int .i64 x.key) rfl;have e0:zq.cell? ⟨z8.heap.size,0,none⟩=some (.int .i64 0):=Qa zb 0 rfl;have qH:=Qf zb 0;clear za zI zb zF zu zr;go_upto_region 20 with fail
 rw[<-zG];clear zG;obtain⟨w15,zh⟩:=DR (zq.setCell ⟨z8.heap.size,0,none⟩ (.int .i64 x.key));have z4:zq.grownBy w15 (some z8.heap.size):=by rw[zh];exact Qo zq _ _ _
 have z9:w15.heap[z8.heap.size]?=some (.cells #[.int .i64 x.key, .string ⟨rv.toArray⟩, .int .i64 k1] 146):=by rw[zh,heap_setCell_same zq _ 0 _ _ _ zt];rfl
 have zJ:Below z8.heap.size zq w15:=⟨z4.os,z4.tape,z4.output,z4.size,fun k hk=>z4.block k (Nh hk (Lk (D0.1 zt).1)) (fun e=>by have:=Nd e;omega)⟩
 have q2:=DY zJ;go_upto_region 22 with fail
 rw[<-zh];clear zh zR y7 e0 qH;have z0:w15.cell? ⟨z8.heap.size,0,none⟩=some (.int .i64 x.key):=Qa z9 0 rfl;have z1:w15.cell? ⟨z8.heap.size,1,none⟩=some (.string ⟨rv.toArray⟩):=Qa z9 1 rfl;have z2:w15.cell? ⟨z8.heap.size,2,none⟩=some (.int .i64 k1):=Qa z9 2 rfl;have zz:=DY (show Below zU.heap.size zU w15 from z3.out.trans (q2.out.mono zT));clear z9 z4 zJ;go_upto_region 23 with(at_builtin;refine Qq _ rfl (.tmp 90) (.tmp 92) _ rfl w15.heap.size 3 146 es _ 32 underlying137 qQ qD qm ql rfl (by decide) (.slice none 0 0) 0 [] rfl (Nb _ _ _ _) _ _ 1 1 [.int .i64 x.key, .string ⟨rv.toArray⟩, .int .i64 k1] rfl rfl (Qh.new w15 [.int .i64 x.key, .string ⟨rv.toArray⟩, .int .i64 k1] 146 (0,0)) (by simp[Value.oneCell']) (by simp only[maxLen];omega) (by omega) (by simp) ?_;intro A16 qO w16 z5 zP zd _;have HF:=DY (DZ z5 ((Qd w15 (.cells #[.int .i64 x.key, .string ⟨rv.toArray⟩, .int .i64 k1] 146)).trans zd));clear z5 zP zd)
 clear z0 z1 z2;go_wp2_with fail
 rw[rounds_succ];go_wp2;go_ret2
 obtain⟨zx,zd⟩:=HF.out;obtain⟨qB,rfl⟩:=Zj zx (by omega);have z6:=Qb zz zd;exact⟨qB,qO,x.key,_,rfl,QO zx (D3 zC.out.size zz.out.size),zN.out.below z6,zC.out.trans (Q6.of_below z6)⟩
theorem level1_ok{h:AlC}{w:World}{bs:List UInt8}{k M:Nat}{tree:Int}(hA:AlM h w bs k)(hk:k<11){x:Qv}{q c2 Bx:Nat}(ho:w.ownsRow Bx 146 3 (.slice (some ⟨q,0,none⟩) 1 c2) 1 (VO x))(hT:Ul tree [x] k M):
  Calls prog 230 #[.pointer (some ⟨h.ga,0,none⟩), .int .i64 tree, .bool true, .slice (some ⟨q,0,none⟩) 1 c2] w fun e w'=>∃qa ca key v,e= .returned (.tuple #[.slice (some ⟨qa,0,none⟩) 1 ca, .nilIface])/\w'.ownsRow w.heap.size 146 3 (.slice (some ⟨qa,0,none⟩) 1 ca) 1 [.int .i64 key, .string v, .int .i64 ((k+1:Nat):Int)]/\AlM h w' (QR bs (k+1) (QX 2 ((k+1:Nat):Int) (Zi (QH tree true [x])))) (k+1)/\Q6 h w w':=by
 by_cases hce:c2=1
 ·exact level1a_ok hA hk ho hT hce
 ·exact level1b_ok hA hk ho hT hce
def Zh:Array Value:=#[.int .i64 0, .int .i64 0, .int .i64 0, .int .i64 0, .slice none 0 0]
theorem Y4(a b c d e:Value):(prog.info? 28).map (·.size)=some (#[a,b,c,d,e]:Array Value).size:=by
 show _=some 5
 kernel_rfl
theorem XI{fn:Func}{p r u:Tmp}{ty ty2:TypeId}{P:Program}(h:fn.results=#[.cell p ty, .cell r ty2, .tmp u])(tmps:Array Value)(w:World)(g g2:Nat)(cs cs2:Array Value)
  (hp:tmps.getD p undef= .pointer (some ⟨g,0,none⟩)) (h1:(loadVar ty ⟨g,0,none⟩).run P w= .ok (.agg cs) w) (hp2:tmps.getD r undef= .pointer (some ⟨g2,0,none⟩)) (h2:(loadVar ty2 ⟨g2,0,none⟩).run P w= .ok (.agg cs2) w):
  (results fn tmps).run P w= .ok (.tuple #[.agg cs, .agg cs2,tmps.getD u undef]) w:=by
 have e1:(results fn tmps).run P w=((asAddr (tmps.getD p undef)).run P w).andThen fun a w₁=>((loadVar ty a).run P w₁).andThen fun x w₂=>((asAddr (tmps.getD r undef)).run P w₂).andThen fun b w₃=>((loadVar ty2 b).run P w₃).andThen fun y w₄=> .ok (.tuple #[x,y,tmps.getD u undef]) w₄:=by
  simp only[results,h];simp[Sem.run_bind,Result.andThen]
 rw[e1,hp,hp2];simp[asAddr,Result.andThen,h1,h2]
theorem cells11{w:World}{b:Nat}{t:TypeId}{fz:Nat×Nat}{z0 z1 z2 z3 z4 z5 z6 z7 z8 z9 z10:Int}(h:w.heap[b]?=some (.cells #[.int .i64 z0, .int .i64 z1, .int .i64 z2, .int .i64 z3, .int .i64 z4, .int .i64 z5, .int .i64 z6, .int .i64 z7, .int .i64 z8, .int .i64 z9, .int .i64 z10] t fz)):
  w.cell? ⟨b,0,none⟩=some (.int .i64 z0)/\w.cell? ⟨b,1,none⟩=some (.int .i64 z1)/\w.cell? ⟨b,2,none⟩=some (.int .i64 z2)/\w.cell? ⟨b,3,none⟩=some (.int .i64 z3)/\w.cell? ⟨b,4,none⟩=some (.int .i64 z4)/\w.cell? ⟨b,5,none⟩=some (.int .i64 z5)/\w.cell? ⟨b,6,none⟩=some (.int .i64 z6)/\w.cell? ⟨b,7,none⟩=some (.int .i64 z7)/\w.cell? ⟨b,8,none⟩=some (.int .i64 z8)/\w.cell? ⟨b,9,none⟩=some (.int .i64 z9)/\w.cell? ⟨b,10,none⟩=some (.int .i64 z10):=
 ⟨Qa h 0 rfl,Qa h 1 rfl,Qa h 2 rfl,Qa h 3 rfl,Qa h 4 rfl,Qa h 5 rfl,Qa h 6 rfl,Qa h 7 rfl,Qa h 8 rfl,Qa h 9 rfl,Qa h 10 rfl⟩
theorem Vc{w w':World}{b c:Nat}{cs:Array Value}{t:TypeId}{fz:Nat×Nat}(hc:w.heap[c]?=some (.cells cs t fz))(hg:w.grownBy w' (some b))(hne:c≠b):w'.heap[c]?=some (.cells cs t fz):=
 (hg.block c (D0.1 hc).1 (fun e=>hne (Nd e))).trans hc
def GivesLd(q:Option (Xe×(Nat->Int)))(w:World)(e:Ending)(w':World):Prop:=
 Below w.heap.size w w'/\((∃p s A c,q=some (p,s)/\e= .returned (.tuple #[Yc p A c, .agg (QQ s), .nilIface])/\Qt w' w.heap.size (.slice A p.devs.length c) p.devs)∨(q=none/\∃v,e= .returned (.tuple #[.agg Zh, .agg Zb,v])/\Qy 43 w' w'.heap.size v))
theorem lpool_any{w:World}{base m:Nat}{bs:List UInt8}(hi:ZH w base m bs)(hbs:base<=w.heap.size)(fuel:Int)(hfu:fuel<=1000000):
  Calls prog 26 #[.pointer (some ⟨m,0,none⟩), .int .i64 fuel] w (GivesLd (Vf bs fuel) w):=by
 obtain⟨q,hq⟩:=DR (Vf bs fuel);rw[<-hq];obtain⟨w1,zy,zE,-⟩:=DT w (.cells #[.int .i64 0, .int .i64 0, .int .i64 0, .int .i64 0, .slice none 0 0] 28) (.cells #[.int .i64 0, .int .i64 0, .int .i64 0, .int .i64 0, .int .i64 0, .int .i64 0, .int .i64 0, .int .i64 0, .int .i64 0, .int .i64 0, .int .i64 0] 65);have zM:w1.heap[w.heap.size]?=some (.cells Zh 28):=by rw[zy];exact Qj (heap_alloc_new w _) _
 have zK:w1.heap[w.heap.size+1]?=some (.cells Zb 65):=by rw[zy];exact ZB (by simp) _
 have KS:=Kz (hi.below (zE.mono hbs));have KV:=DY (fun(W:World) (hb:Below w.heap.size w W) (a b c:Int)=>devices_any (hi.below (hb.mono hbs)) (Nat.le_trans hbs hb.size) a b c fuel hfu);have zL:=DY zE;have zR:=DY zM;have zP:=DY zK;have zh:(prog.info? 28).map (·.size)=some Zh.size:=Y4 _ _ _ _ _;have zd:(prog.info? 65).map (·.size)=some Zb.size:=ZJ fun _=>0
 have zj:∀v∈Zh.toList,v.oneCell'=true:=by simp[Zh,Value.oneCell']
 have ze:∀v∈Zb.toList,v.oneCell'=true:=ZP fun _=>0
 unfold Vf at hq;clear zE zM zK hi hbs;go_enter func26,ntmps26
 go_upto_region 1 with fail
 rw[show(w.alloc (.cells #[.int .i64 0, .int .i64 0, .int .i64 0, .int .i64 0, .slice none 0 0] 28)).alloc (.cells #[.int .i64 0, .int .i64 0, .int .i64 0, .int .i64 0, .int .i64 0, .int .i64 0, .int .i64 0, .int .i64 0, .int .i64 0, .int .i64 0, .int .i64 0] 65)=w1 from zy.symm]
 clear zy;go_wp2_with fail
 refine KS.mono ?_;rintro e w2 ⟨⟨s,zt,rfl⟩|⟨zt,v,rfl,hv⟩,zi⟩;rotate_left
 ·have HQ:=DY (show q=none by rw[hq,zt];rfl);have hA:=heap_alloc_new w2 (.cells Zb 65);have zD:=DY (Qb zL zi);have zC:=DY (Qe zR zi);have zA:=DY (Qe zP zi);have HV:=DY hv;obtain⟨vt,vx,rfl⟩:=hv.form;clear KS hq hv zi zt;go_upto_region 2 with(refine Ql rfl 65 _ _ rfl w2.heap.size Zb rfl rfl Zb 65 hA rfl zd ze ?_;intro w3 h3 zQ zY)
  have zf:Below w2.heap.size w2 w3:=(Qd w2 _).grown zQ (Qd w2 _).size (fun k hk=>by cases hk;exact Na _);have zl:=DY (Qb zD zf);have zS:=Qe zC zf;have hs3':=Qe zA zf;have zZ:=DY (HV.out.ext zf);clear zf zQ zY hA h3;go_wp2_with (first|(refine Ql rfl 28 _ _ rfl w.heap.size Zh rfl rfl Zh 28 zS rfl zh zj ?_;intro w5 h5 za zB;have zr:=(za.block _ (D0.1 hs3').1 (fun e=>by have:=Option.some.inj e;omega)).trans hs3')|(refine Ql rfl 65 _ _ rfl (w.heap.size+1) Zb rfl rfl Zb 65 zr rfl zd ze ?_;intro w6 h6 zb zI))
  have hg5':=(zb.block _ (D0.1 h5).1 (fun e=>by have:=Nd e;omega)).trans h5;refine bodyPost_ret (v:= .tuple #[.agg Zh, .agg Zb, .iface vt vx]) (XI (p:=4) (r:=5) (u:=6) rfl _ _ w.heap.size (w.heap.size+1) Zh Zb rfl (run_loadVar_row _ _ _ _ _ _ _ hg5' underlying28 rfl zh) rfl (run_loadVar_row _ _ _ _ _ _ _ h6 underlying65 rfl zd)) rfl ?_;exact⟨(zl.out.grown za zl.out.size (fun k hk=>by cases hk;exact Na _)).grown zb (D3 zl.out.size za.size) (fun k hk=>by cases hk;omega), .inr ⟨HQ.out,_,rfl,((((zZ.out.up (by decide)).grown zS (by decide) za).more za.size).grown zr (by decide) zb).more zb.size⟩⟩
 ·have zG:=ZJ s;obtain⟨z0,z1,z2,z3,z4,z5,z6,z7,z8,z9,zm,hz⟩:∃z0 z1 z2 z3 z4 z5 z6 z7 z8 z9 zm,QQ s=#[.int .i64 z0, .int .i64 z1, .int .i64 z2, .int .i64 z3, .int .i64 z4, .int .i64 z5, .int .i64 z6, .int .i64 z7, .int .i64 z8, .int .i64 z9, .int .i64 zm]:=⟨s 0,s 1,s 2,s 3,s 4,s 5,s 6,s 7,s 8,s 9,s 10,rfl⟩;have HZ:=DY hz;have HQ:=DY (show q=(QY bs z5 z6 z3 fuel).map fun l=>(⟨z0,z1,z2,z3,l⟩,s) by
   rw[hq,zt,Option.bind_some];unfold QQ at hz;simp only[Array.mk.injEq,List.cons.injEq,Value.int.injEq,true_and,and_true] at hz;obtain⟨e0,e1,e2,e3,e4,e5,e6,e7,e8,e9,e10⟩:=hz;rw[e0,e1,e2,e3,e5,e6])
  have zu:=ZP s;rw[hz] at zG zu ⊢;have zD:=DY (Qb zL zi);have zC:=DY (Qe zR zi);have zA:=DY (Qe zP zi);clear KS hq zt hz zi;have hA:=heap_alloc_new w2 (.cells #[.int .i64 z0, .int .i64 z1, .int .i64 z2, .int .i64 z3, .int .i64 z4, .int .i64 z5, .int .i64 z6, .int .i64 z7, .int .i64 z8, .int .i64 z9, .int .i64 zm] 65);obtain⟨w3,zx⟩:=DR (w2.alloc (.cells #[.int .i64 z0, .int .i64 z1, .int .i64 z2, .int .i64 z3, .int .i64 z4, .int .i64 z5, .int .i64 z6, .int .i64 z7, .int .i64 z8, .int .i64 z9, .int .i64 zm] 65));rw[<-zx] at hA;have zf:Below w2.heap.size w2 w3:=by rw[zx];exact Qd w2 _
  have zl:=DY (Qb zD zf);have zT:=DY (Qe zC zf);have zN:=DY (Qe zA zf);have zX:=DY hA;have x3:=Qa hA 3 rfl;have x5:=Qa hA 5 rfl;have x6:=Qa hA 6 rfl;clear zf hA;go_upto_region 2 with fail
  rw[<-zx];clear zx;go_wp2_with fail
  refine(KV.out w3 zl z5 z6 z3).mono ?_;rintro e w4 ⟨zg,⟨ls,v,zv,rfl,zF⟩|⟨zv,v,rfl,hv⟩⟩;rotate_left
  ·have zz:=DY (show q=none by rw[HQ.out,zv];rfl);have HQ:=zz;have zo:=DY (Qb zl zg);have zw:=Qe zT zg;have zp:=Qe zN zg;have q1:=DY hv;obtain⟨vt,vx,rfl⟩:=hv.form;clear zv hv zg zz x3 x5 x6;go_wp2_with (first|(refine Ql rfl 28 _ _ rfl w.heap.size Zh rfl rfl Zh 28 zw rfl zh zj ?_;intro w5 h5 za zB;have zr:=(za.block _ (D0.1 zp).1 (fun e=>by have:=Nd e;omega)).trans zp)|(refine Ql rfl 65 _ _ rfl (w.heap.size+1) Zb rfl rfl Zb 65 zr rfl zd ze ?_;intro w6 h6 zb zI))
   have hg5':=(zb.block _ (D0.1 h5).1 (fun e=>by have:=Nd e;omega)).trans h5;refine bodyPost_ret (v:= .tuple #[.agg Zh, .agg Zb, .iface vt vx]) (XI (p:=4) (r:=5) (u:=6) rfl _ _ w.heap.size (w.heap.size+1) Zh Zb rfl (run_loadVar_row _ _ _ _ _ _ _ hg5' underlying28 rfl zh) rfl (run_loadVar_row _ _ _ _ _ _ _ h6 underlying65 rfl zd)) rfl ?_;exact⟨(zo.out.grown za zo.out.size (fun k hk=>by cases hk;exact Na _)).grown zb (D3 zo.out.size za.size) (fun k hk=>by cases hk;omega), .inr ⟨HQ.out,_,rfl,((((q1.out.up (by decide)).grown zw (by decide) za).more za.size).grown zr (by decide) zb).more zb.size⟩⟩
  ·obtain⟨A4,c4,rfl⟩:=zF.form;have zz:=DY (show q=some (⟨z0,z1,z2,z3,ls⟩,s) by rw[HQ.out,zv];rfl);have zo:=DY (Qb zl zg);have zw:=Qe zT zg;have zp:=Qe zN zg;have zc:=Qe zX zg;have zW:=DY zF;have zk:=Y4 (.int .i64 z0) (.int .i64 z1) (.int .i64 z2) (.int .i64 z3) (.slice A4 ls.length c4);have zn:∀v∈(#[.int .i64 z0, .int .i64 z1, .int .i64 z2, .int .i64 z3, .slice A4 ls.length c4]:Array Value).toList,v.oneCell'=true:=by simp[Value.oneCell']
   have x0:=Qa zc 0 rfl;have x1:=Qa zc 1 rfl;have x2:=Qa zc 2 rfl;have x3:=Qa zc 3 rfl;have x4:=Qa zc 4 rfl;have x5:=Qa zc 5 rfl;have x6:=Qa zc 6 rfl;have x7:=Qa zc 7 rfl;have x8:=Qa zc 8 rfl;have x9:=Qa zc 9 rfl;have zH:=Qa zc 10 rfl;have q0:=DY zc;have zs:=DY (show w2.heap.size≠w.heap.size/\w2.heap.size≠w.heap.size+1 from by have:=(D0.1 zA).1;omega);clear zv zF zg zc;go_upto_region 7 with fail
   refine wp_region_held_drew (S:=(fun U:World=>U.cell? ⟨w2.heap.size,0,none⟩=some (.int .i64 z0)/\U.cell? ⟨w2.heap.size,1,none⟩=some (.int .i64 z1)/\U.cell? ⟨w2.heap.size,2,none⟩=some (.int .i64 z2)/\U.cell? ⟨w2.heap.size,3,none⟩=some (.int .i64 z3)/\U.cell? ⟨w2.heap.size,4,none⟩=some (.int .i64 z4)/\U.cell? ⟨w2.heap.size,5,none⟩=some (.int .i64 z5)/\U.cell? ⟨w2.heap.size,6,none⟩=some (.int .i64 z6)/\U.cell? ⟨w2.heap.size,7,none⟩=some (.int .i64 z7)/\U.cell? ⟨w2.heap.size,8,none⟩=some (.int .i64 z8)/\U.cell? ⟨w2.heap.size,9,none⟩=some (.int .i64 z9)/\U.cell? ⟨w2.heap.size,10,none⟩=some (.int .i64 zm))) (by kernel_rfl) ?_ (fun hHeld=>?_)
   (focus((try dsimp only);(first|exact⟨x0,x1,x2,x3,x4,x5,x6,x7,x8,x9,zH⟩|with_reducible exact zJ.out|with_reducible exact zO.out|assumption)))
   refine QD (.f 0 (.f 1 (.f 2 (.f 3 (.f 4 (.f 5 (.f 6 (.f 7 (.f 8 (.f 9 (.f 10 (.r 11 (.r 12 (.f 13 .e)))))))))))))) ?_
   repeat' ((first|(refine QL (v:=?_) (hv:=?_) (h:=?_);rotate_left;(focus(first|(refine .inr ⟨by rfl,?_⟩;rfl)|(refine .inl ⟨by rfl,?_⟩;intro w hSw;(try dsimp only at hSw);(try simp only[List.getElem_toArray,D4,D5]);go_simp;try(with_reducible rfl)))))|((refine Q0 (h:=fun K hK=>?_))<;>((first|(refine Q2 28 (.tmp 4) (.tmp 46) rfl w.heap.size #[.int .i64 z0, .int .i64 z1, .int .i64 z2, .int .i64 z3, .slice A4 ls.length c4] rfl rfl Zh 28 zw rfl zk zn ?_;intro w5 h5 za zB;have zU:=Vc (w:=w4.drew) q0.out za zs.out.1;have zJ:=DY (cells11 zU);have hs5':=(za.block _ (D0.1 zp).1 (fun e=>by have:=Nd e;omega)).trans zp)|(refine Q2 65 (.tmp 5) (.tmp 47) rfl (w.heap.size+1) #[.int .i64 z0, .int .i64 z1, .int .i64 z2, .int .i64 z3, .int .i64 z4, .int .i64 z5, .int .i64 z6, .int .i64 z7, .int .i64 z8, .int .i64 z9, .int .i64 zm] rfl rfl Zb 65 hs5' rfl zG zu ?_;intro w6 h6 zb zI;have zO:=DY (cells11 (Vc zU zb zs.out.2))));refine hK.out _ _ ?_ (fun hHeld=>?_);(focus((try dsimp only);(first|exact⟨x0,x1,x2,x3,x4,x5,x6,x7,x8,x9,zH⟩|with_reducible exact zJ.out|with_reducible exact zO.out|assumption)));clear hK K)))<;>(try simp only[Act.put,Nc,Nf,Ng]))
   all_goals (refine Qu ?_;refine wpAnyH_done (by kernel_rfl) ?_ _)
   go_wp2;have hg5':=(zb.block _ (D0.1 h5).1 (fun e=>by have:=Nd e;omega)).trans h5;refine bodyPost_ret (v:= .tuple #[.agg #[.int .i64 z0, .int .i64 z1, .int .i64 z2, .int .i64 z3, .slice A4 ls.length c4], .agg #[.int .i64 z0, .int .i64 z1, .int .i64 z2, .int .i64 z3, .int .i64 z4, .int .i64 z5, .int .i64 z6, .int .i64 z7, .int .i64 z8, .int .i64 z9, .int .i64 zm], .nilIface]) (XI (p:=4) (r:=5) (u:=6) rfl _ _ w.heap.size (w.heap.size+1) _ _ rfl (run_loadVar_row _ _ _ _ _ _ _ hg5' underlying28 rfl zk) rfl (run_loadVar_row _ _ _ _ _ _ _ h6 underlying65 rfl zG)) rfl ?_;have zq:=(Below.refl w4.heap.size w4).drew;have zV:=Qe zw zq;have zB:=Vc (w:=w4.drew) (Qe zp zq) za (by omega);have q2:=((zW.out.keep zq).kept za (fun e he u' s n xs ho=> .inr (Qi zV (by rcases he with rfl|rfl<;>decide) ho).symm)).kept zb (fun e he u' s n xs ho=> .inr (Qi zB (by rcases he with rfl|rfl<;>decide) ho).symm);have hb:=((Qb zo zq).grown za (Qb zo zq).size (fun k hk=>by cases hk;exact Na _)).grown zb (D3 (Qb zo zq).size za.size) (fun k hk=>by cases hk;omega);exact⟨hb, .inl ⟨⟨z0,z1,z2,z3,ls⟩,s,A4,c4,zz.out,by rw[HZ.out];rfl,q2.mono zl.out.size⟩⟩
end Go.Proofs.YtijcgllddnpmhaaGreatDoor
