/- TopSound: lemmas, part 22. -/
import Derived.Test.YtijcgllddnpmhaaGreatDoorTopSoundT21
set_option maxRecDepth 100000
set_option maxHeartbeats 16000000
set_option linter.all false
namespace Go.Proofs.YtijcgllddnpmhaaGreatDoor
open Go.RowKit Go.Proofs.Tryz
theorem Wk.far{w w':World}{base g m r:Nat}{tree fuel:Int}{q:WkS}{cs:Array Value}{t:TypeId}{fz:Nat×Nat}(h:Wk w base g m tree fuel q)(hr:w.heap[r]?=some (Obj.cells cs t fz))
  (h1:t≠326) (h2:t≠146) (h3:t≠3) (h4:t≠32) (h5:t≠179) (hg:w.grownBy w' (some r)):Wk w' base g m tree fuel q:=by
 refine⟨(hg.block g h.lt (fun e=>?_)).trans h.bx,h.e.kept hg (.inr (Qi hr h2 h.e).symm),h.b.kept hg (.inr (Qi hr h3 h.b).symm),h.f.kept hg (.inr (Qi hr h4 h.f).symm),h.y.kept hg (.inr (Qi hr h3 h.y).symm),h.ap,fun v hv=>((h.fe v hv).grown hr h5 hg).more hg.size,h.bad,h.ge⟩
 injection e with e
 subst e;have:=h.bx;rw[hr] at this
 injection this with this
 injection this with _ e _
 exact h1 e
theorem WkK.new{w w1 w2:World}{base r:Nat}(h:WkK base w w1)(hb:base<=w.heap.size)(hr:w.heap.size<=r)(hg:w1.grownBy w2 (some r)):WkK base w w2:=
 ⟨h.1.grown hg (D3 hb h.1.size) (fun k e=>by cases e;omega),fun b cs t fz hx e1 e2 e3 e4=>(hg.block b (Zv (h.2 b cs t fz hx e1 e2 e3 e4)) (fun e=>by injection e with e;have:=Zv hx;omega)).trans (h.2 b cs t fz hx e1 e2 e3 e4)⟩
def Xt(bs:List UInt8)(tree:Int)(q:WkS)(no lo hi:Int):Option QF:=
 if no∈q.way then none else if 16<=q.way.length then none else
  match ZD bs no tree with
  |none=>none
  |some n=>if Z0 lo hi n.keys=false then none else if n.leaf=true/\q.st.deep≠0/\q.st.deep≠(q.way.length:Int)+1 then none else some n
theorem VQ.low{w w':World}{base:Nat}{n:QF}{A:Option Addr}{c:Nat}{A2:Option Addr}{c2:Nat}{row:Option Nat}(h:VQ w base n A c A2 c2)(hg:w.grownBy w' row)(hr:∀k,row=some k->k<base):VQ w' base n A c A2 c2:=by
 have ha:∀{e m:Nat} {v:Value} {xs:List Value},w.ownsRow base e 1 v m xs->v.ownBlock=none∨v.ownBlock≠row:=fun{e m v xs} ho=>by
  cases hb:v.ownBlock with
  |none=>exact .inl rfl
  |some k=>exact .inr (fun e=>by have:=(ho.lt k hb).1;have:=hr k e.symm;omega)
 exact⟨h.k.kept hg (ha h.k),h.v.kept hg (ha h.v)⟩
def Um(base g m:Nat)(tree fuel:Int)(bs:List UInt8)(q:WkS)(no lo hi:Int)(w:World)(e:Ending)(w':World):Prop:=
 Wk w' base g m tree fuel {q with st:=q.st.see}/\WkK base w w'/\
 ((∃n A c A2 c2,Xt bs tree q no lo hi=some n/\e= .returned (.tuple #[.agg #[.int .i64 n.t, .bool n.leaf, .slice A n.keys.length c, .slice A2 n.vals.length c2], .nilIface])/\VQ w' w.heap.size n A c A2 c2)∨
  (Xt bs tree q no lo hi=none/\∃t lf A1 n1 c1 A2 n2 c2 v,e= .returned (.tuple #[.agg #[.int .i64 t, .bool lf, .slice A1 n1 c1, .slice A2 n2 c2],v])/\Qy 20 w' w'.heap.size v))
theorem Um.err{base g m r:Nat}{tree fuel:Int}{bs:List UInt8}{q:WkS}{no lo hi:Int}{w w1 w2:World}{t:Int}{lf:Bool}{A1 A2:Option Addr}{n1 c1 n2 c2:Nat}{v:Value}{cs:Array Value}(h:Wk w1 base g m tree fuel {q with st:=q.st.see})(hK:WkK base w w1)(hb:base<=w.heap.size)
  (hr:w1.heap[r]?=some (Obj.cells cs 113)) (hrn:w.heap.size<=r) (hg:w1.grownBy w2 (some r)) (hv:Qy 20 w1 w1.heap.size v) (hl:Xt bs tree q no lo hi=none):
  Um base g m tree fuel bs q no lo hi w (.returned (.tuple #[.agg #[.int .i64 t, .bool lf, .slice A1 n1 c1, .slice A2 n2 c2],v])) w2:=
 ⟨h.far hr (by decide) (by decide) (by decide) (by decide) (by decide) hg,hK.new hb hrn hg, .inr ⟨hl,t,lf,A1,n1,c1,A2,n2,c2,v,rfl,(hv.grown hr (by decide) hg).more hg.size⟩⟩
def NdU(q:Option QF)(base:Nat)(w':World)(n:QF)(A:Option Addr)(c:Nat)(A2:Option Addr)(c2:Nat)(v:Value):Prop:=
 (q=some n/\v= .nilIface/\VQ w' base n A c A2 c2)∨(q=none/\Qy 20 w' w'.heap.size v)
theorem NdU.keep{q:Option QF}{base:Nat}{w w':World}{n:QF}{A:Option Addr}{c:Nat}{A2:Option Addr}{c2:Nat}{v:Value}(h:NdU q base w n A c A2 c2 v)(hb:Below w.heap.size w w'):NdU q base w' n A c A2 c2 v:=by
 rcases h with⟨h1,h2,h3⟩|⟨h1,h2⟩
 ·exact .inl ⟨h1,h2,h3.keep hb⟩
 ·exact .inr ⟨h1,h2.ext hb⟩
theorem NdU.set4{q:Option QF}{base r:Nat}{w:World}{n:QF}{A:Option Addr}{c:Nat}{A2:Option Addr}{c2:Nat}{v:Value}(h:NdU q base w n A c A2 c2 v){cs:Array Value}(hr:w.heap[r]?=some (Obj.cells cs 113))(x0 x1 x2 x3:Value):
  NdU q base ((((w.setCell ⟨r,0,none⟩ x0).setCell ⟨r,1,none⟩ x1).setCell ⟨r,2,none⟩ x2).setCell ⟨r,3,none⟩ x3) n A c A2 c2 v:=by
 rcases h with⟨h1,h2,h3⟩|⟨h1,h2⟩
 ·exact .inl ⟨h1,h2,h3.set4 hr _ _ _ _⟩
 ·exact .inr ⟨h1,(h2.grown hr (by decide) (ZQ _ _ _ _ _ _)).more (ZQ _ _ _ _ _ _).size⟩
theorem node_set4{w:World}{r:Nat}{c0 c1 c2 c3:Value}(hr:w.heap[r]?=some (Obj.cells #[c0,c1,c2,c3] 113))(x0 x1 x2 x3:Value):
  ((((w.setCell ⟨r,0,none⟩ x0).setCell ⟨r,1,none⟩ x1).setCell ⟨r,2,none⟩ x2).setCell ⟨r,3,none⟩ x3).heap[r]?=some (Obj.cells #[x0,x1,x2,x3] 113):=by
 rw[heap_setCell_same _ r 3 _ _ x3 (heap_setCell_same _ r 2 _ _ x2 (heap_setCell_same _ r 1 _ _ x1 (heap_setCell_same w r 0 _ _ x0 hr)))];simp
def LookMid(base:Nat)(tree:Int)(bs:List UInt8)(no:Int)(w2:World)(s8 s9 s50:Value)(wx:World):Prop:=
 Below w2.heap.size w2 wx/\∃X n A c A2 c2,s8= .pointer (some ⟨X,0,none⟩)/\s50= .agg #[.int .i64 n.t, .bool n.leaf, .slice A n.keys.length c, .slice A2 n.vals.length c2]/\
  wx.heap[X]?=some (.cells #[.int .i64 n.t, .bool n.leaf, .slice A n.keys.length c, .slice A2 n.vals.length c2] 113)/\NdU (ZD bs no tree) base wx n A c A2 c2 s9
def ZH(w:World)(base m:Nat)(bs:List UInt8):Prop:=∃B A c,Img w B m A c bs/\m<base/\∀k,(Value.slice A bs.length c).ownBlock=some k->k<base
theorem ZH.below{w w':World}{base m:Nat}{bs:List UInt8}(h:ZH w base m bs)(hb:Below base w w'):ZH w' base m bs:=by
 obtain⟨B,A,c,⟨h1,h2,h3,h4⟩,hm,hk⟩:=h;refine⟨B,A,c,⟨(hb.block m hm).trans h1,⟨h2.1,?_⟩,h3,h4⟩,hm,hk⟩;rcases h2.2 with hn|⟨g,z1,z0,hv,hg,z2,r⟩
 ·exact .inl hn
 ·exact .inr ⟨g,z1,z0,hv,hg,(hb.block g (hk g (by rw[hv];rfl))).trans z2,r⟩
theorem ZH.more{w:World}{base base' m:Nat}{bs:List UInt8}(h:ZH w base m bs)(hb:base<=base'):ZH w base' m bs:=by
 obtain⟨B,A,c,h1,hm,hk⟩:=h;exact⟨B,A,c,h1,by omega,fun k h=>by have:=hk k h;omega⟩
theorem GA{w:World}{base m:Nat}{bs:List UInt8}(h:ZH w base m bs)(no tree:Int):Calls prog 55 #[.pointer (some ⟨m,0,none⟩), .int .i64 no, .int .i64 tree] w (VE (ZD bs no tree) w):=by
 obtain⟨B,A,c,h1,_⟩:=h;exact bnode_any h1 no tree
theorem bnodeU_any{w:World}{base base2 m:Nat}{bs:List UInt8}(h:ZH w base m bs)(hb:base2<=w.heap.size)(no tree:Int):Calls prog 55 #[.pointer (some ⟨m,0,none⟩), .int .i64 no, .int .i64 tree] w fun e w'=>
  ∃n A c A2 c2 v,e= .returned (.tuple #[.agg #[.int .i64 n.t, .bool n.leaf, .slice A n.keys.length c, .slice A2 n.vals.length c2],v])/\NdU (ZD bs no tree) base2 w' n A c A2 c2 v/\Below w.heap.size w w':=by
 refine(GA h no tree).mono ?_;rintro e w' ⟨⟨n,A,c,A2,c2,hq,rfl,z1⟩|⟨hq,v,rfl,hv⟩,z0⟩
 ·exact⟨n,A,c,A2,c2, .nilIface,rfl, .inl ⟨hq,rfl,z1.mono hb⟩,z0⟩
 ·exact⟨zeroN,none,0,none,0,v,rfl, .inr ⟨hq,hv.up (by decide)⟩,z0⟩
theorem look_any{w:World}{base g m:Nat}{tree fuel:Int}{bs:List UInt8}{q:WkS}(h:Wk w base g m tree fuel q)(hi:ZH w base m bs)(no lo hi':Int)(hw:q.way.length<=16)(hl:0<=q.st.looked)(hl2:q.st.looked<=1000000)(hnl:∀n,ZD bs no tree=some n->n.keys.length<=18):
  Calls prog 236 #[.pointer (some ⟨g,0,none⟩), .int .i64 no, .agg #[.int .i64 lo, .int .i64 hi']] w (Um base g m tree fuel bs q no lo hi' w):=by
 obtain⟨Ay,cy,hy⟩:=QN h.y;obtain⟨w1,zG,zJ,zN⟩:=DT w (.cells #[.int .i64 lo, .int .i64 hi'] 329) (.cells #[.int .i64 0, .bool false, .slice none 0 0, .slice none 0 0] 113);have zZ:w1.heap[w.heap.size+1]?=some (.cells #[.int .i64 0, .bool false, .slice none 0 0, .slice none 0 0] 113):=by
  rw[zG,show w.heap.size+1=(w.alloc (.cells #[.int .i64 lo, .int .i64 hi'] 329)).heap.size by simp]
  exact heap_alloc_new _ _
 have zf:=h.keep zJ;have k3:w1.cell? ⟨g,3,none⟩=some (.int .i64 q.st.looked):=Qa zf.bx 3 rfl;have f3:=Qf zf.bx 3;obtain⟨zv,zP⟩:=zf.field 3 (.int .i64 (q.st.looked+1)) {q with st:=q.st.see} (by simp[WkS.cells,WS.see]) rfl rfl rfl rfl rfl rfl rfl rfl rfl
 have zl:=(WkK.of_below zJ h.bs).trans zP;have q5:=h.lt;have q4:(w1.setCell ⟨g,3,none⟩ (.int .i64 (q.st.looked+1))).heap[w.heap.size]?=some (.cells #[.int .i64 lo, .int .i64 hi'] 329):=(heap_setCell_other _ _ _ _ (by simp;omega)).trans zN;have zQ:(w1.setCell ⟨g,3,none⟩ (.int .i64 (q.st.looked+1))).heap[w.heap.size+1]?=some (.cells #[.int .i64 0, .bool false, .slice none 0 0, .slice none 0 0] 113):=(heap_setCell_other _ _ _ _ (by simp;omega)).trans zZ;have HK:=DY zl;have HI:=DY (hi.below zl.1);have z9:=DY zv;have zT:=DY q4;have zD:=DY zQ;have zh:=DY h.bs;have HY:=DY hy;have zR:=DY hnl;clear h hi zJ zN zZ zf zv zP zl q5 q4 zQ hy hnl;go_enter func236,ntmps236
 go_upto_region 1 with fail
 rw[show(w.alloc (.cells #[.int .i64 lo, .int .i64 hi'] 329)).alloc (.cells #[.int .i64 0, .bool false, .slice none 0 0, .slice none 0 0] 113)=w1 from zG.symm]
 clear zG;go_upto_region 2 with fail
 clear k3 f3;generalize w1.setCell ⟨g,3,none⟩ (.int .i64 (q.st.looked+1))=w2 at*;have k8:w2.cell? ⟨g,8,none⟩=some (.slice Ay q.way.length cy):=by rw[<-HY.out];exact Qa z9.out.bx 8 rfl
 have KC:=GS Ay cy q.way no w2 _ (by omega) (by have:=z9.out.y;rw[show({q with st:=q.st.see}:WkS).Wy=q.Wy from rfl,HY.out] at this;exact Qh.of_own this);go_wp2_with fail
 refine KC.mono ?_;rintro e w2' ⟨rfl,rfl⟩;clear KC;obtain⟨b,hb⟩:=DR (decide (no∈q.way));rw[<-hb];have zI:=DY hb;clear hb;cases b with
 |true=>
  have zg:=DY (show Xt bs tree q no lo hi'=none by unfold Xt;rw[if_pos (of_decide_eq_true zI.out.symm)]);clear k8;have KA:=Xk 0 no (.iface 37 (.int .i64 11)) w2 (Qy.num _ _ _ _);go_wp2_with fail
  refine KA.mono ?_;rintro e w9 ⟨v,rfl,hv,z6⟩;have HV:=DY (hv.up (show 0+1<=20 by decide));have zj:=DY (z9.out.keep z6);have zi:=DY (HK.out.trans (WkK.of_below z6 z9.out.bs));have z4:=DY (Qe zD z6);have q0:=Qa z4 0 rfl;have q1:=Qa z4 1 rfl;have q2:=Qa z4 2 rfl;have q3:=Qa z4 3 rfl;have f0:=Qf z4 0;have f1:=Qf z4 1;have f2:=Qf z4 2;have f3:=Qf z4 3;clear KA hv z6;go_wp2
  (try simp only[Exit.inBlock,Exit.then])
  refine bodyPost_ret (v:= .tuple #[.agg #[.int .i64 0, .bool false, .slice none 0 0, .slice none 0 0],v]) (by rw[results_cell_tmp rfl];go_simp) rfl ?_;exact Um.err zj zi zh z4 (by omega) (ZQ _ _ _ _ _ _) HV zg
 |false=>
  have zw:¬no∈q.way:=of_decide_eq_false zI.out.symm;have zB:=DY (show Xt bs tree q no lo hi'=(if 16<=q.way.length then none else match ZD bs no tree with|none=>none|some n=>if Z0 lo hi' n.keys=false then none else if n.leaf=true/\q.st.deep≠0/\q.st.deep≠(q.way.length:Int)+1 then none else some n) by unfold Xt;rw[if_neg zw]);clear zw zI;by_cases h16:16<=q.way.length
  ·have zg:=DY (show Xt bs tree q no lo hi'=none by rw[zB.out,if_pos h16]);have zY:decide (16<=q.way.length)=true:=decide_eq_true h16;have zt:decide ((16:Int)<=(q.way.length:Int))=true:=decide_eq_true (by omega);clear h16 zB;have KA:=Xk 0 no (.iface 37 (.int .i64 10)) w2 (Qy.num _ _ _ _);go_wp2_with fail
   refine KA.mono ?_;rintro e w9 ⟨v,rfl,hv,z6⟩;have HV:=DY (hv.up (show 0+1<=20 by decide));have zj:=DY (z9.out.keep z6);have zi:=DY (HK.out.trans (WkK.of_below z6 z9.out.bs));have z4:=DY (Qe zD z6);have q0:=Qa z4 0 rfl;have q1:=Qa z4 1 rfl;have q2:=Qa z4 2 rfl;have q3:=Qa z4 3 rfl;have f0:=Qf z4 0;have f1:=Qf z4 1;have f2:=Qf z4 2;have f3:=Qf z4 3;clear KA hv z6;go_wp2
   (try simp only[Exit.inBlock,Exit.then])
   refine bodyPost_ret (v:= .tuple #[.agg #[.int .i64 0, .bool false, .slice none 0 0, .slice none 0 0],v]) (by rw[results_cell_tmp rfl];go_simp) rfl ?_;exact Um.err zj zi zh z4 (by omega) (ZQ _ _ _ _ _ _) HV zg
  ·have zF:=DY (show Xt bs tree q no lo hi'=(match ZD bs no tree with|none=>none|some n=>if Z0 lo hi' n.keys=false then none else if n.leaf=true/\q.st.deep≠0/\q.st.deep≠(q.way.length:Int)+1 then none else some n) by rw[zB.out,if_neg h16]);have zY:decide (16<=q.way.length)=false:=decide_eq_false h16;have zt:decide ((16:Int)<=(q.way.length:Int))=false:=decide_eq_false (by omega);clear h16 zB;go_upto_region 6 with fail
   have k5:w2.cell? ⟨g,5,none⟩=some (.pointer (some ⟨m,0,none⟩)):=Qa z9.out.bx 5 rfl;have k6:w2.cell? ⟨g,6,none⟩=some (.int .i64 tree):=Qa z9.out.bx 6 rfl;clear zY zt k8;go_cut [8,9,39,49,50,51] (fun s8 s9 s39 s49 s50 s51 wx=>s39= .tuple #[s50,s9]/\s49= .tuple #[s50,s9]/\s51=s9/\LookMid w.heap.size tree bs no w2 s8 s9 s50 wx)
   case first=>
    have zV:=(D6 w2.heap.size w2).drew;have zn:=Lib.hid (fun(V V':World) (hb:Below V.heap.size V V') (hS:Below w2.heap.size w2 V/\V.cell? ⟨g,5,none⟩=some (.pointer (some ⟨m,0,none⟩))/\V.cell? ⟨g,6,none⟩=some (.int .i64 tree))=>
     (show Below w2.heap.size w2 V'/\V'.cell? ⟨g,5,none⟩=some (.pointer (some ⟨m,0,none⟩))/\V'.cell? ⟨g,6,none⟩=some (.int .i64 tree) from⟨Qb hS.1 hb,Qg hb hS.2.1,Qg hb hS.2.2⟩))
    have zX:=Lib.hid (show g<w2.heap.size from z9.out.lt);have zM:=Lib.hid (fun(V:World) (r:Nat) (hr:w2.heap.size<=r) (x0 x1 x2 x3:Value) (hS:Below w2.heap.size w2 V/\V.cell? ⟨g,5,none⟩=some (.pointer (some ⟨m,0,none⟩))/\V.cell? ⟨g,6,none⟩=some (.int .i64 tree))=>
     (show Below w2.heap.size w2 ((((V.setCell ⟨r,0,none⟩ x0).setCell ⟨r,1,none⟩ x1).setCell ⟨r,2,none⟩ x2).setCell ⟨r,3,none⟩ x3)/\((((V.setCell ⟨r,0,none⟩ x0).setCell ⟨r,1,none⟩ x1).setCell ⟨r,2,none⟩ x2).setCell ⟨r,3,none⟩ x3).cell? ⟨g,5,none⟩=some (.pointer (some ⟨m,0,none⟩))/\((((V.setCell ⟨r,0,none⟩ x0).setCell ⟨r,1,none⟩ x1).setCell ⟨r,2,none⟩ x2).setCell ⟨r,3,none⟩ x3).cell? ⟨g,6,none⟩=some (.int .i64 tree) from by
      have hb:Below w2.heap.size V ((((V.setCell ⟨r,0,none⟩ x0).setCell ⟨r,1,none⟩ x1).setCell ⟨r,2,none⟩ x2).setCell ⟨r,3,none⟩ x3):=(Zf (D6 r V) x0 x1 x2 x3).mono hr;exact⟨hS.1.trans hb,(hb.cell (p:=⟨g,5,none⟩) zX).trans hS.2.1,(hb.cell (p:=⟨g,6,none⟩) zX).trans hS.2.2⟩))
    have KB:=Lib.hid (fun(V:World) (hS:Below w2.heap.size w2 V)=>bnodeU_any (HI.out.below (hS.mono z9.out.bs)) (show w.heap.size<=V.heap.size from D3 HK.out.1.size hS.size) no tree);have q7:=Lib.hid (show(w2.drew.alloc (.cells #[.int .i64 0, .bool false, .slice none 0 0, .slice none 0 0] 113)).heap[w2.heap.size]?=some (.cells #[.int .i64 0, .bool false, .slice none 0 0, .slice none 0 0] 113) from heap_alloc_new w2.drew _);refine wp_region_held_drew (S:=(fun V=>Below w2.heap.size w2 V/\V.cell? ⟨g,5,none⟩=some (.pointer (some ⟨m,0,none⟩))/\V.cell? ⟨g,6,none⟩=some (.int .i64 tree))) (by kernel_rfl) ?_ (fun hHeld=>?_)
    (focus((try dsimp only);(first|exact⟨zV,k5,k6⟩|with_reducible exact zn.out _ _ z6 hHeld|with_reducible exact zn.out _ _ (Qd _ _) zS.out|with_reducible exact zn.out _ _ (Qd _ _) hHeld|exact zM.out w9 w2.heap.size (Nat.le_refl _) _ _ _ _ hHeld)))
    refine QD (.f 0 (.f 1 (.f 2 (.f 3 (.f 4 (.f 5 (.f 6 (.f 7 (.f 8 (.t 9 (.f 10 (.f 11 (.f 12 (.o 13 (.o 14 (.f 15 .e)))))) 13 (.o 9 (.f 10 (.f 11 (.f 12 (.o 14 (.f 15 .e)))))))))))))))) ?_
    repeat' ((first|(refine QL (v:=?_) (hv:=?_) (h:=?_);rotate_left;(focus(first|(refine .inr ⟨by rfl,?_⟩;rfl)|(refine .inl ⟨by rfl,?_⟩;intro w hSw;(try dsimp only at hSw);(try simp only[D8,D4,D5]);go_simp;try(with_reducible rfl)))))|(refine Qr (h:=?_))|(((first|refine Qx (h:=fun K hK=>?_)|refine Zt (h:=fun K hK=>?_) (h':=fun K hK=>?_))<;>((try simp only[D8,D4,D5]);go_simp))<;>((first|(go_at_call 55;refine(KB.out _ hHeld.1).mono ?_;rintro e w9 ⟨n,A3,c3,A4,c4,v,rfl,zz,z6⟩;have zW:=DY zz;have zS:=DY (zn.out _ _ z6 hHeld);clear zz;first|(have ze:=Qe q7.out z6;have q0:=Qa ze 0 rfl;have q1:=Qa ze 1 rfl;have q2:=Qa ze 2 rfl;have q3:=Qa ze 3 rfl;have z0:=Qf ze 0;have z1:=Qf ze 1;have z2:=Qf ze 2;have z3:=Qf ze 3;have z8:=DY ze;clear ze)|skip)|skip);refine hK.out _ _ ?_ (fun hHeld=>?_);(focus((try dsimp only);(first|exact⟨zV,k5,k6⟩|with_reducible exact zn.out _ _ z6 hHeld|with_reducible exact zn.out _ _ (Qd _ _) zS.out|with_reducible exact zn.out _ _ (Qd _ _) hHeld|exact zM.out w9 w2.heap.size (Na _) _ _ _ _ hHeld)));clear hK K)))<;>(try simp only[Act.put,Nc,Nf,Ng]))
    all_goals (refine Qu ?_;refine wpAnyH_done (by kernel_rfl) ?_ _)
    ·go_wp2;go_meet
     exact⟨rfl,rfl,rfl,hHeld.1,w9.heap.size,n,A3,c3,A4,c4,rfl,rfl,heap_alloc_new w9 _,zW.out.keep (Qd w9 _)⟩
    ·go_wp2;go_meet
     exact⟨rfl,rfl,rfl,hHeld.1,w2.heap.size,n,A3,c3,A4,c4,rfl,rfl,node_set4 z8 _ _ _ _,zW.out.set4 z8 _ _ _ _⟩
   case rest=>
    obtain⟨rfl,rfl,rfl,zu,X,n,A,c,A2,c2,rfl,rfl,hX,zz⟩:=hcut;have zC:=Lib.hid (z9.out.keep zu);have zH:=Lib.hid (HK.out.trans (WkK.of_below zu z9.out.bs));have zL:=Lib.hid (Qe zT zu);have zd:=Lib.hid (Qe zD zu);have zm:=Lib.hid hX;have HXN:=DY (show w.heap.size<=w2.heap.size from HK.out.1.size);clear zu hX k5 k6 HK HI z9 zT zD;rcases zz with⟨hq,rfl,zK⟩|⟨hq,hv⟩
    case inr=>
     have zg:=DY (show Xt bs tree q no lo hi'=none by rw[zF.out,hq]);obtain⟨tv,xv,rfl⟩:=hv.form;have HV:=DY hv;have p0:=Qa zm 0 rfl;have p1:=Qa zm 1 rfl;have p2:=Qa zm 2 rfl;have p3:=Qa zm 3 rfl;have q0:=Qa zd 0 rfl;have q1:=Qa zd 1 rfl;have q2:=Qa zd 2 rfl;have q3:=Qa zd 3 rfl;have f0:=Qf zd 0;have f1:=Qf zd 1;have f2:=Qf zd 2;have f3:=Qf zd 3;clear hq hv zF;go_wp2
     (try simp only[Exit.inBlock,Exit.then])
     refine bodyPost_ret (v:= .tuple #[.agg #[.int .i64 n.t, .bool n.leaf, .slice A n.keys.length c, .slice A2 n.vals.length c2], .iface tv xv]) (by rw[results_cell_tmp rfl];go_simp) rfl ?_;exact Um.err zC zH zh zd (by omega) (ZQ _ _ _ _ _ _) HV zg
    have hnl:=zR.out n hq;have zE:=Lib.hid (show Xt bs tree q no lo hi'=(if Z0 lo hi' n.keys=false then none else if n.leaf=true/\q.st.deep≠0/\q.st.deep≠(q.way.length:Int)+1 then none else some n) by rw[zF.out,hq]);have KF:=Ou A c n.keys lo hi' wc (by omega) (Qh.of_own zK.k);have zO:=Lib.hid zK;have e0:=Qa zL 0 rfl;have e1:=Qa zL 1 rfl;have p2:=Qa zm 2 rfl;clear hq zK zF zR;go_wp2_with fail
    refine KF.mono ?_;rintro e w3 ⟨nn,rfl,zA,zk⟩;have za:=Lib.hid (zC.out.keep zk);have zp:=Lib.hid (zH.out.trans (WkK.of_below zk zC.out.bs));have z5:=Lib.hid (Qe zd zk);have z7:=Lib.hid (Qe zm zk);have zx:=Lib.hid (zO.out.keep zk);clear KF e0 e1 p2 zC zH zL zd zm zO;by_cases h0:nn=0
    case neg=>
     have zg:=DY (show Xt bs tree q no lo hi'=none by
      rw[zE.out,if_pos];cases hfb:Z0 lo hi' n.keys with
      |false=>rfl
      |true=>exact absurd (zA.2 hfb) h0)
     have d0:(nn !=0)=true:=by rw[bne_iff_ne];exact h0
     clear zA zk zE h0;have p0:=Qa z7 0 rfl;have p1:=Qa z7 1 rfl;have p2:=Qa z7 2 rfl;have p3:=Qa z7 3 rfl;go_upto_region 10 with fail
     go_region_with(go_at_call 33;refine(Xk 0 no (.iface 37 (.int .i64 9)) _ (Qy.num _ _ _ _)).mono ?_;rintro e w9 ⟨v,rfl,hv,z6⟩;replace z6:Below w3.heap.size w3 w9:=Jg z6;have HV:=DY (hv.up (show 0+1<=20 by decide));have zj:=DY (za.out.keep z6);have zi:=DY (zp.out.trans (WkK.of_below z6 za.out.bs));have z4:=DY (Qe z5.out z6);have z8:=Qe z7.out z6;have p0:=Qa z8 0 rfl;have p1:=Qa z8 1 rfl;have p2:=Qa z8 2 rfl;have p3:=Qa z8 3 rfl;have q0:=Qa z4.out 0 rfl;have q1:=Qa z4.out 1 rfl;have q2:=Qa z4.out 2 rfl;have q3:=Qa z4.out 3 rfl;have f0:=Qf z4.out 0;have f1:=Qf z4.out 1;have f2:=Qf z4.out 2;have f3:=Qf z4.out 3;clear hv z6 z8)
     all_goals (go_wp2;(try simp only[Exit.inBlock,Exit.then]);refine bodyPost_ret (v:= .tuple #[.agg #[.int .i64 n.t, .bool n.leaf, .slice A n.keys.length c, .slice A2 n.vals.length c2],v]) (by rw[results_cell_tmp rfl];go_simp) rfl ?_;exact Um.err zj zi zh z4 (by omega) (ZQ _ _ _ _ _ _) HV zg)
    subst h0;have zy:=Lib.hid (show Xt bs tree q no lo hi'=(if n.leaf=true/\q.st.deep≠0/\q.st.deep≠(q.way.length:Int)+1 then none else some n) by rw[zE.out,zA.1 rfl,if_neg (by decide)]);have k2:w3.cell? ⟨g,2,none⟩=some (.int .i64 q.st.deep):=Qa za.out.bx 2 rfl;have k8:w3.cell? ⟨g,8,none⟩=some (.slice Ay q.way.length cy):=by rw[<-HY.out];exact Qa za.out.bx 8 rfl
    have hwi:(q.way.length:Int)<=16:=by omega
    clear zA zk zE;obtain⟨nt,q6,zc,zb⟩:=n;dsimp only at*;cases q6 with
    |false=>
     have zs:=DY (show Xt bs tree q no lo hi'=some ⟨nt,false,zc,zb⟩ by rw[zy.out,if_neg (by simp)]);clear zy;have p0:=Qa z7 0 rfl;have p1:=Qa z7 1 rfl;have p2:=Qa z7 2 rfl;have p3:=Qa z7 3 rfl;have q0:=Qa z5 0 rfl;have q1:=Qa z5 1 rfl;have q2:=Qa z5 2 rfl;have q3:=Qa z5 3 rfl;have f0:=Qf z5 0;have f1:=Qf z5 1;have f2:=Qf z5 2;have f3:=Qf z5 3;go_upto_region 11 with fail
     go_quiet (fail)
     have HQ:=DY (Zn (D6 w3.heap.size w3) nq);have p0:=Qa z7 0 rfl;go_wp2
     (try simp only[Exit.inBlock,Exit.then])
     refine bodyPost_ret (v:= .tuple #[.agg #[.int .i64 nt, .bool false, .slice A zc.length c, .slice A2 zb.length c2], .nilIface]) (by rw[results_cell_tmp rfl];go_simp) rfl ?_;exact⟨(za.out.keep HQ.out).far (Qe z5.out HQ.out) (by decide) (by decide) (by decide) (by decide) (by decide) (ZQ _ _ _ _ _ _),(zp.out.trans (WkK.of_below HQ.out za.out.bs)).new zh.out (show w.heap.size<=w.heap.size+1 by omega) (ZQ _ _ _ _ _ _), .inl ⟨⟨nt,false,zc,zb⟩,A,c,A2,c2,zs.out,rfl,(zx.out.keep HQ.out).set4 (Qe z5.out HQ.out) _ _ _ _⟩⟩
    |true=>
     have zo:=DY (show Xt bs tree q no lo hi'=(if q.st.deep≠0/\q.st.deep≠(q.way.length:Int)+1 then none else some ⟨nt,true,zc,zb⟩) by rw[zy.out];simp);clear zy;by_cases g1:q.st.deep=0
     ·have zs:=DY (show Xt bs tree q no lo hi'=some ⟨nt,true,zc,zb⟩ by rw[zo.out,if_neg (by rw[g1];simp)]);have HDP:=DY g1;rw[g1] at k2;clear zo g1;have p0:=Qa z7 0 rfl;have p1:=Qa z7 1 rfl;have p2:=Qa z7 2 rfl;have p3:=Qa z7 3 rfl;have q0:=Qa z5 0 rfl;have q1:=Qa z5 1 rfl;have q2:=Qa z5 2 rfl;have q3:=Qa z5 3 rfl;have f0:=Qf z5 0;have f1:=Qf z5 1;have f2:=Qf z5 2;have f3:=Qf z5 3;go_upto_region 11 with fail
      go_quiet (fail)
      have HQ:=DY (Zn (D6 w3.heap.size w3) nq);have p0:=Qa z7 0 rfl;go_wp2
      (try simp only[Exit.inBlock,Exit.then])
      refine bodyPost_ret (v:= .tuple #[.agg #[.int .i64 nt, .bool true, .slice A zc.length c, .slice A2 zb.length c2], .nilIface]) (by rw[results_cell_tmp rfl];go_simp) rfl ?_;exact⟨(za.out.keep HQ.out).far (Qe z5.out HQ.out) (by decide) (by decide) (by decide) (by decide) (by decide) (ZQ _ _ _ _ _ _),(zp.out.trans (WkK.of_below HQ.out za.out.bs)).new zh.out (show w.heap.size<=w.heap.size+1 by omega) (ZQ _ _ _ _ _ _), .inl ⟨⟨nt,true,zc,zb⟩,A,c,A2,c2,zs.out,rfl,(zx.out.keep HQ.out).set4 (Qe z5.out HQ.out) _ _ _ _⟩⟩
     ·have d1:(q.st.deep !=0)=true:=by rw[bne_iff_ne];exact g1
      by_cases g2:q.st.deep=(q.way.length:Int)+1
      ·have zs:=DY (show Xt bs tree q no lo hi'=some ⟨nt,true,zc,zb⟩ by rw[zo.out,if_neg (by rw[g2];simp)]);have d2:(q.st.deep !=(q.way.length:Int)+1)=false:=by rw[g2];simp
       clear zo g1 g2;have p0:=Qa z7 0 rfl;have p1:=Qa z7 1 rfl;have p2:=Qa z7 2 rfl;have p3:=Qa z7 3 rfl;have q0:=Qa z5 0 rfl;have q1:=Qa z5 1 rfl;have q2:=Qa z5 2 rfl;have q3:=Qa z5 3 rfl;have f0:=Qf z5 0;have f1:=Qf z5 1;have f2:=Qf z5 2;have f3:=Qf z5 3;go_upto_region 11 with fail
       go_quiet (fail)
       have HQ:=DY (Zn (D6 w3.heap.size w3) nq);have p0:=Qa z7 0 rfl;go_wp2
       (try simp only[Exit.inBlock,Exit.then])
       refine bodyPost_ret (v:= .tuple #[.agg #[.int .i64 nt, .bool true, .slice A zc.length c, .slice A2 zb.length c2], .nilIface]) (by rw[results_cell_tmp rfl];go_simp) rfl ?_;exact⟨(za.out.keep HQ.out).far (Qe z5.out HQ.out) (by decide) (by decide) (by decide) (by decide) (by decide) (ZQ _ _ _ _ _ _),(zp.out.trans (WkK.of_below HQ.out za.out.bs)).new zh.out (show w.heap.size<=w.heap.size+1 by omega) (ZQ _ _ _ _ _ _), .inl ⟨⟨nt,true,zc,zb⟩,A,c,A2,c2,zs.out,rfl,(zx.out.keep HQ.out).set4 (Qe z5.out HQ.out) _ _ _ _⟩⟩
      ·have zg:=DY (show Xt bs tree q no lo hi'=none by rw[zo.out,if_pos ⟨g1,g2⟩]);have d2:(q.st.deep !=(q.way.length:Int)+1)=true:=by rw[bne_iff_ne];exact g2
       clear zo g1 g2;have p1:w3.cell? ⟨X,1,none⟩=some (.bool true):=Qa z7 1 rfl;go_upto_region 11 with fail
       go_quiet (fail)
       have HQ:=DY (Zn (D6 w3.heap.size w3) nq);obtain⟨w4,zq⟩:=DR (w3.drewN nq);have zU:=DY (show Wk w4 base g m tree fuel {q with st:=q.st.see} by rw[zq];exact za.out.keep HQ);have q9:=DY (show WkK base w w4 by rw[zq];exact zp.out.trans (WkK.of_below HQ za.out.bs));have q8:=DY (show w4.heap[w.heap.size+1]?=some (.cells #[.int .i64 0, .bool false, .slice none 0 0, .slice none 0 0] 113) by rw[zq];exact Qe z5 HQ);have zr:=DY (show w4.heap[X]?=some (.cells #[.int .i64 nt, .bool true, .slice A zc.length c, .slice A2 zb.length c2] 113) by rw[zq];exact Qe z7 HQ);rw[<-zq];clear zq p1 k2 k8 za zp z5 z7 zx;have p0:=Qa zr 0 rfl;have p1:=Qa zr 1 rfl;have p2:=Qa zr 2 rfl;have p3:=Qa zr 3 rfl;go_upto_region 12 with fail
       go_region_with(go_at_call 33;refine(Xk 0 no (.iface 37 (.int .i64 10)) _ (Qy.num _ _ _ _)).mono ?_;rintro e w9 ⟨v,rfl,hv,z6⟩;replace z6:Below w4.heap.size w4 w9:=Jg z6;have HV:=DY (hv.up (show 0+1<=20 by decide));have zj:=DY (zU.out.keep z6);have zi:=DY (q9.out.trans (WkK.of_below z6 zU.out.bs));have z4:=DY (Qe q8.out z6);have z8:=Qe zr.out z6;have p0:=Qa z8 0 rfl;have p1:=Qa z8 1 rfl;have p2:=Qa z8 2 rfl;have p3:=Qa z8 3 rfl;have q0:=Qa z4.out 0 rfl;have q1:=Qa z4.out 1 rfl;have q2:=Qa z4.out 2 rfl;have q3:=Qa z4.out 3 rfl;have f0:=Qf z4.out 0;have f1:=Qf z4.out 1;have f2:=Qf z4.out 2;have f3:=Qf z4.out 3;clear hv z6 z8)
       all_goals (go_wp2;(try simp only[Exit.inBlock,Exit.then]);refine bodyPost_ret (v:= .tuple #[.agg #[.int .i64 nt, .bool true, .slice A zc.length c, .slice A2 zb.length c2],v]) (by rw[results_cell_tmp rfl];go_simp) rfl ?_;exact Um.err zj zi zh z4 (show w.heap.size<=w.heap.size+1 by omega) (ZQ _ _ _ _ _ _) HV zg)
def Visited(base g m:Nat)(tree fuel:Int)(q:WkS)(st':WS)(s:Int)(w:World)(e:Ending)(w':World):Prop:=
 e= .returned (.tuple #[])/\∃q',q'.st=st'/\q'.way=q.way/\Wk w' base g m tree fuel q'/\WkK base w w'/\WkB q' (s+1)
def Ro(bs:List UInt8)(tree fuel:Int)(base g m d:Nat):Prop:=
 ∀(q:WkS) (w:World) (no lo hi s:Int),Wk w base g m tree fuel q->ZH w base m bs->q.way.length+d=16->WkB q s->s<=50->
  Calls prog 190 #[.pointer (some ⟨g,0,none⟩), .int .i64 no, .agg #[.int .i64 lo, .int .i64 hi]] w (Visited base g m tree fuel q (Zx bs tree fuel d q.way no lo hi q.st) s w)
theorem WkE.row{base base2 n s:Nat}{w w':World}{e:TypeId}{v:Value}{xs:List Value}(h:WkE base w w')(ho:w.ownsRow base2 e s v n xs)(h1:e≠326)(h2:e≠32):w'.ownsRow base2 e s v n xs:=by
 refine⟨ho.1,?_⟩;rcases ho.2 with hn|⟨g,z1,z0,hv,hg,z2,r⟩
 ·exact .inl hn
 ·exact .inr ⟨g,z1,z0,hv,hg,h.2 g _ _ _ z2 h1 h2,r⟩
theorem WkB.fail{q q':WkS}{s:Int}(h:WkB q s)(hs:s<=50)(h1:q'.st=q.st.fail)(h2:q'.nb=q.nb)(h3:q'.fl.length=q.fl.length+1):WkB q' (s+1):=by
 obtain⟨e1,e2,e3,e4,e5,e6,e7,e8⟩:=h;refine⟨?_,?_,?_,?_,?_,?_,?_,by omega⟩<;>first|rw[h1]|skip
 ·exact e1
 ·rw[h2];exact e2
 ·rw[h3];show((q.fl.length+1:Nat):Int)<=19*q.st.looked+(s+1);omega
 ·exact e4
 ·exact e5
 ·exact e6
 ·exact e7
theorem child_any{bs:List UInt8}{tree fuel:Int}{base g m d:Nat}(hV:Ro bs tree fuel base g m d)(q:WkS)(w:World)(no lo hi s:Int)(val:List UInt8)(h:Wk w base g m tree fuel q)(hi2:ZH w base m bs)(hd:q.way.length+d=16)(hl:0<q.way.length)(hB:WkB q s)(hs:s<=50)(hvl:val.length<=1000):
  Calls prog 239 #[.pointer (some ⟨g,0,none⟩), .int .i64 no, .string ⟨val.toArray⟩, .agg #[.int .i64 lo, .int .i64 hi]] w
   (Visited base g m tree fuel q (if rdE [QB] val=0 then Zx bs tree fuel d q.way (rd1 QB val) lo hi q.st else q.st.fail) s w):=by
 obtain⟨w1,zl,zq,zj⟩:=DS w (.cells #[.int .i64 lo, .int .i64 hi] 329);have KR:=YD val w1 (by simp only[reachBytes];omega);have HH:=DY h;obtain⟨st',zd⟩:=DR ((if rdE [QB] val=0 then Zx bs tree fuel d q.way (rd1 QB val) lo hi q.st else q.st.fail));rw[<-zd];have z6:=DY zd;clear zd;have HI:=DY hi2;have zn:=DY zq;have zr:=DY zj;have z7:=DY hB;clear h hi2 zq zj hB;go_enter func239,ntmps239
 go_upto_region 1 with fail
 rw[<-zl];clear zl;go_wp2_with fail
 refine KR.mono ?_;rintro e w2 ⟨rfl,za⟩;have z2:=Qb zn za;have z0:=DY (HH.out.keep z2);have zb:=DY (WkK.of_below z2 HH.out.bs);have zh:=Qe zr za;have zo:=DY (HI.out.below zb.out.1);clear KR za zn zr z2 HI;by_cases h0:rdE [QB] val=0
 ·have zc:=DY (show st'=Zx bs tree fuel d q.way (rd1 QB val) lo hi q.st by rw[z6.out,if_pos h0]);rw[h0];clear z6;obtain⟨e0,e1⟩:=DU zh;have KV:=hV q w2 (rd1 QB val) lo hi s z0 zo hd z7 hs;clear h0 zh;generalize rd1 QB val=tn at*;go_wp2_with fail
  refine KV.mono ?_;rintro e w3 ⟨rfl,q',h1,h2,h3,h4,h5⟩;have HE:=DY (And.intro (h1.trans zc.out.symm) (And.intro h2 (DZ h3 (DZ (zb.out.trans h4) h5))));clear KV h1 h2 h3 h4 h5 e0 e1;go_wp2
  (try simp only[Exit.inBlock,Exit.then])
  refine Kk (by rfl) rfl ?_;exact⟨rfl,q',HE.out⟩
 ·have zc:=DY (show st'=q.st.fail by rw[z6.out,if_neg h0]);clear z6;have d0:(rdE [QB] val==0)=false:=by rw[beq_eq_false_iff_ne];exact h0
  obtain⟨A,c,hy⟩:=QN z0.out.y;obtain⟨l,x,z1⟩:∃l x,q.way=l++[x]:=⟨q.way.dropLast,q.way.getLast (by intro e;rw[e] at hl;simp at hl),(List.dropLast_concat_getLast _).symm⟩;have z3:q.way.length=l.length+1:=by rw[z1];simp
  rw[z3] at hy;have k8:w2.cell? ⟨g,8,none⟩=some (.slice A (l.length+1) c):=by rw[<-hy];exact Qa z0.out.bx 8 rfl
  have f8:=Qf z0.out.bx 8;have hcap:l.length+1<=c:=by have:=z0.out.y;rw[z3,hy] at this;exact Xy this
  have hl16:l.length<=15:=by omega
  obtain⟨zm,zp⟩:=z0.out.pop A c x l z1 hy {q with Wy:= .slice A l.length c,way:=l} rfl
  have z9:=DY zm;have zt:=DY zp;have zy:=DY hy;have z5:=DY z1;have zx:=DY (show WkE base w2 (w2.setCell ⟨g,8,none⟩ (.slice A l.length c)) from WkE.grown z0.out.bx (.inl rfl) z0.out.ge (Qo w2 g 8 _));clear zm zp hy z1 z3 hd zh zo h0 hV;generalize rdE [QB] val=er at*;generalize rd1 QB val=tn at*;have hci:(l.length:Int)<=15:=by omega
  have hcc:(l.length:Int)<=(c:Int):=by omega
  have hcn:l.length<=c:=by omega
  go_upto_region 6 with fail
  clear k8 f8;generalize hw3:w2.setCell ⟨g,8,none⟩ (.slice A l.length c)=w3 at*;clear hw3;have KA:=Xk 0 no (.iface 37 (.int .i64 er)) w3 (Qy.num _ _ _ _);have zw:=DY (show q.fl.length<=100000000 by have:=z7.out.fb;have:=z7.out.l1;omega);go_wp2_with fail
  refine KA.mono ?_;rintro e w4 ⟨v,rfl,hv,z8⟩;have zs:=DY (z9.out.keep z8);have KN:=R5 zs.out v (hv.up (by decide)) (by show l.length<=16;omega) zw.out;have zA:=DY (zx.out.trans (WkE.of_below z8 z9.out.bs));have zz:=DY (zb.out.trans (zt.out.trans (WkK.of_below z8 z9.out.bs)));clear KA hv z8;go_wp2_with fail
  refine KN.mono ?_;rintro e w5 ⟨rfl,q',h1,h2,h3,h4,h5,h6,h7⟩;have zu:=DY (zA.out.trans h7);have zv:=DY (zz.out.trans h7.toK);have k8:w5.cell? ⟨g,8,none⟩=some q'.Wy:=Qa h6.bx 8 rfl;rw[h5] at k8;replace k8:w5.cell? ⟨g,8,none⟩=some (.slice A l.length c):=k8;have f8:=Qf h6.bx 8;have z4:=Qo w5 g 8 (.slice A (l.length+1) c);have zf:WkK base w5 (w5.setCell ⟨g,8,none⟩ (.slice A (l.length+1) c)):=WkK.grown h6.bx (.inl rfl) h6.ge z4;have ze:w5.ownsRow base 3 1 (.slice A (l.length+1) c) (l.length+1) (iv q.way):=by
   have:=zu.out.row z0.out.y (by decide) (by decide)
   rwa[zy.out,show q.way.length=l.length+1 by rw[z5.out];simp] at this
  have zi:(Value.slice A (l.length+1) c).ownBlock=(Value.slice A l.length c).ownBlock:=by cases A<;>rfl
  have zk:Wk (w5.setCell ⟨g,8,none⟩ (.slice A (l.length+1) c)) base g m tree fuel {q' with Wy:= .slice A (l.length+1) c,way:=q.way}:=by
   refine⟨?_,h6.e.kept z4 (.inr (Qi h6.bx (by decide) h6.e).symm),h6.b.kept z4 (.inr (Qi h6.bx (by decide) h6.b).symm),h6.f.kept z4 (.inr (Qi h6.bx (by decide) h6.f).symm),?_,?_,fun u hu=>zf.err (h6.fe u hu),h6.bad,h6.ge⟩
   ·rw[heap_setCell_same w5 g 8 _ _ _ h6.bx];simp[WkS.cells]
   ·have:=ze.kept z4 (.inr (Qi h6.bx (by decide) ze).symm)
    show World.ownsRow _ base 3 1 (.slice A (l.length+1) c) q.way.length (iv q.way)
    rw[show q.way.length=l.length+1 by rw[z5.out];simp]
    exact this
   ·show q'.Bk.ownBlock=none∨q'.Bk.ownBlock≠(Value.slice A (l.length+1) c).ownBlock
    rw[zi];have:=h6.ap;rw[h5] at this;exact this
  have zg:=DY (show∃q'',q''.st=st'/\q''.way=q.way/\Wk (w5.setCell ⟨g,8,none⟩ (.slice A (l.length+1) c)) base g m tree fuel q''/\WkK base w (w5.setCell ⟨g,8,none⟩ (.slice A (l.length+1) c))/\WkB q'' (s+1) from
   ⟨{q' with Wy:= .slice A (l.length+1) c,way:=q.way},h1.trans zc.out.symm,rfl,zk,zv.out.trans zf,z7.out.fail hs h1 h3 h4⟩)
  clear h1 h2 h3 h4 h5 h6 h7 zk zf ze zi z4 KN;go_wp2
  (try simp only[Exit.inBlock,Exit.then])
  refine Kk (by rfl) rfl ?_;exact⟨rfl,zg.out⟩
section
variable {P:Program}
theorem Q2{o:Oper}{a:Act}{w:World}{K:Act->World->Prop}{Q:Exit->Act->World->Prop}(ty:TypeId)(x y:Operand)(ho:o.op= .store ty x y)
  (g:Nat) (cells:Array Value) (hx:a.eval x= .pointer (some ⟨g,0,none⟩)) (hy:a.eval y= .agg cells) (old:Array Value) (t:TypeId)
  (hg:w.heap[g]?=some (.cells old t (0,0))) (hsz:old.size=cells.size) (hi:(P.info? ty).map (·.size)=some cells.size) (h1:∀v∈cells.toList,v.oneCell'=true)
  (h:∀W,W.heap[g]?=some (.cells cells t (0,0))->w.grownBy W (some g)->W.heap.size=w.heap.size->K (a.put o.dst undef) W):Oper.wp P o a w K Q:=by
 unfold Oper.wp execOp;simp only[ho,hx,hy,Instr.storeAt,Instr.sureAddr,Sem.run_bind,Sem.run_pure,Result.andThen_ok,Va w g ty t old cells hg hsz hi h1];exact h _ (setRow_heap w g old cells t _ hg) ⟨rfl,rfl,rfl,by simp,fun k hk hne=>setRow_other w g k cells (fun e=>hne (by rw[e]))⟩ (by simp)
end
def supE(n:Nat)(l:List UInt8):Int:=if X9 l=0 then(if(n:Int)<Z8 l 4 then 2 else 0) else X9 l
theorem super1_any(A:Option Addr)(c:Nat)(l:List UInt8)(p:Addr){w:World}{B g ci:Nat}{Ai:Option Addr}{bs:List UInt8}(hi:Img w B g Ai ci bs)(hm:l.length<=reachBytes)(h:Qh w w.heap.size A (bv l))(hp:w.cell? p=some (.pointer (some ⟨g,0,none⟩))):
  Calls prog 84 #[.slice A l.length c, .pointer (some p)] w fun e w'=>e= .returned (.tuple #[.agg (QQ (Z8 l)), .int .i64 (supE (Jn bs) l)])/\Below w.heap.size w w':=by
 obtain⟨w1,zb,z5,za⟩:=DS w (.cells (QQ fun _=>0) 65);have hr:=read_super A c l w1 hm (h.ext z5);have zc:=DY z5;have zd:=DY za;have HP:=DY (Qg z5 hp);have HI:=DY (hi.below z5);have HE:=DY (show supE (Jn bs) l=if X9 l=0 then(if(Jn bs:Int)<Z8 l 4 then 2 else 0) else X9 l from rfl);have hsz0:=ZJ fun _=>0
 have z0:=ZJ (Z8 l);have z1:=ZP (Z8 l);have h4:=Ot (Z8 l) 4 (by decide);have z8:Hid ((QQ fun _=>0).size=(QQ (Z8 l)).size):=rfl;clear hm h hp z5 za hi;generalize QQ (Z8 l)=C at*;generalize Z8 l 4=x4 at*;generalize X9 l=er at*;generalize supE (Jn bs) l=en at*;have hw1':w.alloc (.cells #[.int .i64 0, .int .i64 0, .int .i64 0, .int .i64 0, .int .i64 0, .int .i64 0, .int .i64 0, .int .i64 0, .int .i64 0, .int .i64 0, .int .i64 0] 65)=w1:=zb.symm;clear zb;go_enter func84,ntmps84
 go_upto_region 1 with fail
 try rw[hw1']
 clear hw1';go_wp2_with fail
 refine hr.mono ?_;rintro e w2 ⟨rfl,z3⟩;have hA:=heap_alloc_new w2 (.cells (QQ fun _=>0) 65);clear hr;go_upto_region 2 with(refine Ql rfl 65 _ _ rfl w2.heap.size C rfl rfl _ 65 hA z8.out z0 z1 ?_;intro W3 h3 ze zg)
 have z4:Below w2.heap.size w2 W3:=(Qd w2 _).grown ze (Qd w2 _).size (fun k hk=>by cases hk;exact Na _);have z2:=DY (Qb (Qb zc z3) z4);have z9:=Qe (Qe zd z3) z4;have q4:=Qa h3 4 h4;have zi:=DY (Qg z4 (Qg z3 HP));have zh:=DY ((HI.out.below z3).below z4);have p3:=zi.out;clear z3 z4 zc zd HP HI hA ze zg h4;by_cases he:er=0
 ·subst he;have KB:=fun m:Nat=>(XW (w:=W3.drewN m) (show Img (W3.drewN m) B g Ai ci bs from zh.out)).mono fun e w' (h:e=_/\W3.drewN m=w')=>DZ h.1 h.2.symm
  by_cases hx:(Jn bs:Int)<x4
  ·have z7:=DY (show en=2 by rw[HE.out,if_pos rfl,if_pos hx]);have d2:decide ((bs.length:Int)/ 256<x4)=true:=decide_eq_true (by unfold Jn at hx;omega);clear hx HE;go_quiet ((go_at_call 54;exact Calls.quiet_of_same (KB _)))
   go_wp2_with (first|(refine wpList_load_row rfl 65 _ rfl w2.heap.size rfl 65 _ _ _ h3 underlying65 rfl z0 ?_)|(refine Ql rfl 65 _ _ rfl w.heap.size C rfl rfl _ 65 z9 z8.out z0 z1 ?_;intro W4 h5 z6 zf))
   refine bodyPost_ret (v:= .tuple #[.agg C, .int .i64 2]) (Qw (p:=3) (u:=4) rfl _ _ w.heap.size 65 C _ _ rfl h5 underlying65 rfl z0) rfl ?_;exact⟨by rw[z7.out],(Qs z2 _).grown z6 z2.out.size (fun k hk=>by cases hk;exact Na _)⟩
  ·have z7:=DY (show en=0 by rw[HE.out,if_pos rfl,if_neg hx]);have d2:decide ((bs.length:Int)/ 256<x4)=false:=decide_eq_false (by unfold Jn at hx;omega);clear hx HE;go_quiet ((go_at_call 54;exact Calls.quiet_of_same (KB _)))
   go_wp2_with (first|(refine wpList_load_row rfl 65 _ rfl w2.heap.size rfl 65 _ _ _ h3 underlying65 rfl z0 ?_)|(refine Ql rfl 65 _ _ rfl w.heap.size C rfl rfl _ 65 z9 z8.out z0 z1 ?_;intro W4 h5 z6 zf))
   refine bodyPost_ret (v:= .tuple #[.agg C, .int .i64 0]) (Qw (p:=3) (u:=4) rfl _ _ w.heap.size 65 C _ _ rfl h5 underlying65 rfl z0) rfl ?_;exact⟨by rw[z7.out],(Qs z2 _).grown z6 z2.out.size (fun k hk=>by cases hk;exact Na _)⟩
 ·have z7:=DY (show en=er by rw[HE.out,if_neg he]);have d1:(er==0)=false:=by rw[beq_eq_false_iff_ne];exact he
  clear he HE;go_quiet (fail)
  go_wp2_with (first|(refine wpList_load_row rfl 65 _ rfl w2.heap.size rfl 65 _ _ _ h3 underlying65 rfl z0 ?_)|(refine Ql rfl 65 _ _ rfl w.heap.size C rfl rfl _ 65 z9 z8.out z0 z1 ?_;intro W4 h5 z6 zf))
  refine bodyPost_ret (v:= .tuple #[.agg C, .int .i64 er]) (Qw (p:=3) (u:=4) rfl _ _ w.heap.size 65 C _ _ rfl h5 underlying65 rfl z0) rfl ?_;exact⟨by rw[z7.out],(Qs z2 _).grown z6 z2.out.size (fun k hk=>by cases hk;exact Na _)⟩
end Go.Proofs.YtijcgllddnpmhaaGreatDoor
