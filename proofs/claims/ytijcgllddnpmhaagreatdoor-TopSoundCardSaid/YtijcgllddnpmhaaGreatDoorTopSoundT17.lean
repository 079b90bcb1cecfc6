/- TopSound: lemmas, part 17. -/
import Derived.Test.YtijcgllddnpmhaaGreatDoorTopSoundT14
import Derived.Test.YtijcgllddnpmhaaGreatDoorTopSoundT13
set_option maxRecDepth 100000
set_option maxHeartbeats 16000000
set_option linter.all false
namespace Go.Proofs.YtijcgllddnpmhaaGreatDoor
open Go.RowKit Go.Proofs.Tryz
def VE(q:Option QF)(w:World)(e:Ending)(w':World):Prop:=
 ((∃n A c A2 c2,q=some n/\e= .returned (.tuple #[.agg #[.int .i64 n.t, .bool n.leaf, .slice A n.keys.length c, .slice A2 n.vals.length c2], .nilIface])/\VQ w' w.heap.size n A c A2 c2)∨
  (q=none/\∃v,e= .returned (.tuple #[.agg #[.int .i64 0, .bool false, .slice none 0 0, .slice none 0 0],v])/\Qy 1 w' w'.heap.size v))/\Below w.heap.size w w'
theorem VE.err{q:Option QF}{w w3 w':World}{v:Value}{cs:Array Value}(hq:q=none)(hv:Qy 1 w3 w3.heap.size v)(hB:Below w.heap.size w w3)(hK:w3.heap[w.heap.size]?=some (.cells cs 113))(hg:w3.grownBy w' (some w.heap.size)):
  VE q w (.returned (.tuple #[.agg #[.int .i64 0, .bool false, .slice none 0 0, .slice none 0 0],v])) w':=
 ⟨.inr ⟨hq,v,rfl,(hv.grown hK (by decide) hg).more hg.size⟩,hB.grown hg hB.size (fun k hk=>by cases hk;exact Na _)⟩
theorem readN_any{w:World}{B g:Nat}{A:Option Addr}{c:Nat}{bs:List UInt8}(h:Img w B g A c bs)(no tree:Int)(p:Addr)(hp:w.cell? p=some (.int .i64 tree)):
  Calls prog 100 #[.pointer (some ⟨g,0,none⟩), .int .i64 no, .int .i64 2, .func (.func 101) #[] #[.pointer (some p)]] w (VE (ZD bs no tree) w):=by
 obtain⟨w1,zk,zh,zp⟩:=DT w (.cells #[.int .i64 0, .bool false, .slice none 0 0, .slice none 0 0] 113) (.cells #[.int .i64 0, .bool false, .slice none 0 0, .slice none 0 0] 113);have zx:w1.heap[w.heap.size+1]?=some (.cells #[.int .i64 0, .bool false, .slice none 0 0, .slice none 0 0] 113):=by
  rw[zk,show w.heap.size+1=(w.alloc (.cells #[.int .i64 0, .bool false, .slice none 0 0, .slice none 0 0] 113)).heap.size by simp]
  exact heap_alloc_new _ _
 have h1:=Uw (h.below zh) no;have HT:=DY (fun n (hn:n≠0) V=>UD no n hn V);have zm:=DY zh;have zu:=DY zp;have zt:=DY zx;have HP:=DY (Qg zh hp);clear h hp zh zp zx;go_enter func100,ntmps100
 go_upto_region 2 with fail
 rw[show(w.alloc (.cells #[.int .i64 0, .bool false, .slice none 0 0, .slice none 0 0] 113)).alloc (.cells #[.int .i64 0, .bool false, .slice none 0 0, .slice none 0 0] 113)=w1 from zk.symm]
 clear zk;go_wp2_with fail
 refine h1.mono ?_;rintro e w2 ⟨A1,c1,rfl,z0,za⟩;have zf:=DY (Qb zm za);have z8:=DY (Qe zu za);have z9:=DY (Qe zt za);have zs:=DY (Qg za HP);clear h1 zu zt HP;by_cases he:Y0 bs.length no=0
 case neg=>
  have HN:=DY (OA 2 he);have k:=fun V=>HT.out _ he V
  have d1:(Y0 bs.length no !=0)=true:=by rw[bne_iff_ne];exact he
  have q0:=Qa z8 0 rfl;have q1:=Qa z8 1 rfl;have q2:=Qa z8 2 rfl;have q3:=Qa z8 3 rfl;have r0:=Qa z9 0 rfl;have r1:=Qa z9 1 rfl;have r2:=Qa z9 2 rfl;have r3:=Qa z9 3 rfl;generalize Y0 bs.length no=er at*;generalize Y1 bs no=pb at*;clear he z0 za HT zm;go_upto_region 4 with fail
  go_region_with(go_at_call 149;refine(k _).mono ?_;rintro e w3 ⟨v,rfl,hv,z6⟩;replace z6:Below w2.heap.size w2 w3:=Jg z6;have HV:=DY hv;have zd:=DY (Qb zf.out z6);have z2:=DY (Qe z8.out z6);have q0:=Qa z2.out 0 rfl;have q1:=Qa z2.out 1 rfl;have q2:=Qa z2.out 2 rfl;have q3:=Qa z2.out 3 rfl;have z5:=Qe z9.out z6;have r0:=Qa z5 0 rfl;have r1:=Qa z5 1 rfl;have r2:=Qa z5 2 rfl;have r3:=Qa z5 3 rfl;have f0:=Qf z2.out 0;have f1:=Qf z2.out 1;have f2:=Qf z2.out 2;have f3:=Qf z2.out 3;clear hv z6 z5)
  all_goals (go_wp2;(try simp only[Exit.inBlock,Exit.then]);refine bodyPost_ret (v:= .tuple #[.agg #[.int .i64 0, .bool false, .slice none 0 0, .slice none 0 0],v]) (by rw[results_cell_tmp rfl];go_simp) rfl ?_;exact VE.err (by unfold ZD;rw[HN.out];rfl) HV zd z2 (ZQ _ _ _ _ _ _))
 have hl:=OK he;have ho:=OF A1 c1 (Y1 bs no) 2 no w2 (by have:=Xy z0;rwa[Qm] at this) (Qh.of_own z0);have zn:=DY (fun h2=>OB (bs:=bs) (no:=no) (k:=2) he h2);have zo:=DY (fun h2=>Rh (bs:=bs) (no:=no) (k:=2) he h2);rw[Qm,hl] at z0 ⊢;rw[hl] at ho;rw[he];clear he z0 za hl zm;generalize Y1 bs no=pb at*;go_wp2_with fail
 refine ho.mono ?_;rintro e w3 ⟨A2,c2,rfl,z0,z6⟩;have zd:=DY (Qb zf z6);have z2:=DY (Qe z8 z6);have z5:=DY (Qe z9 z6);have zw:=DY (Qg z6 zs);clear ho z8 z9 zs z6;by_cases he:ZA pb 2 no=0
 case neg=>
  have HN:=DY (zn.out he);have k:=fun V=>HT.out _ he V
  have d1:(ZA pb 2 no !=0)=true:=by rw[bne_iff_ne];exact he
  have q0:=Qa z2 0 rfl;have q1:=Qa z2 1 rfl;have q2:=Qa z2 2 rfl;have q3:=Qa z2 3 rfl;have r0:=Qa z5 0 rfl;have r1:=Qa z5 1 rfl;have r2:=Qa z5 2 rfl;have r3:=Qa z5 3 rfl;generalize ZA pb 2 no=er at*;generalize XM pb 2 no=q at*;clear he z0 HT zf zn zo;go_upto_region 7 with fail
  go_region_with(go_at_call 149;refine(k _).mono ?_;rintro e w9 ⟨v,rfl,hv,z4⟩;replace z4:Below w3.heap.size w3 w9:=Jg z4;have HV:=DY hv;have zl:=DY (Qb zd.out z4);have z1:=DY (Qe z2.out z4);have q0:=Qa z1.out 0 rfl;have q1:=Qa z1.out 1 rfl;have q2:=Qa z1.out 2 rfl;have q3:=Qa z1.out 3 rfl;have z7:=Qe z5.out z4;have r0:=Qa z7 0 rfl;have r1:=Qa z7 1 rfl;have r2:=Qa z7 2 rfl;have r3:=Qa z7 3 rfl;have f0:=Qf z1.out 0;have f1:=Qf z1.out 1;have f2:=Qf z1.out 2;have f3:=Qf z1.out 3;clear hv z4 z7)
  all_goals (go_wp2;(try simp only[Exit.inBlock,Exit.then]);refine bodyPost_ret (v:= .tuple #[.agg #[.int .i64 0, .bool false, .slice none 0 0, .slice none 0 0],v]) (by rw[results_cell_tmp rfl];go_simp) rfl ?_;exact VE.err (by unfold ZD;rw[HN.out];rfl) HV zl z1 (ZQ _ _ _ _ _ _))
 have hl:=Ut he;have zy:=DY (zo.out he);have hr:=node1_any A2 c2 (XM pb 2 no) tree p w3 (by have:=Xy z0;rwa[Qm] at this) (by rw[hl];simp[reachBytes]) (Qh.of_own z0) zw;rw[Qm,hl] at z0 ⊢;rw[hl] at hr;rw[he];clear he z0 hl zn zo zf;generalize XM pb 2 no=q at*;have HQ:Hid (U8 tree q=if nodE tree q=0 then some (YW q) else none):=DY (by
  unfold U8 nodE;by_cases h0:XZ q=0
  ·rw[if_pos h0,if_pos h0]
   split
   ·rfl
   ·rfl
  ·rw[if_neg h0,if_neg h0,if_neg h0])
 have zg:=DY (show ZD bs no tree=U8 tree q by unfold ZD;rw[zy.out];rfl);generalize ZD bs no tree=nq at*;generalize U8 tree q=nq2 at*;generalize nodE tree q=er at*;generalize YW q=n at*;go_wp2_with fail
 refine hr.mono ?_;rintro e w4 ⟨A3,c3,A4,c4,rfl,zv,zj⟩;have zb:=Qd w4 (.cells #[.int .i64 n.t, .bool n.leaf, .slice A3 n.keys.length c3, .slice A4 n.vals.length c4] 113);obtain⟨w5,zi⟩:=DR (w4.alloc (.cells #[.int .i64 n.t, .bool n.leaf, .slice A3 n.keys.length c3, .slice A4 n.vals.length c4] 113));rw[<-zi] at zb;have zr:=DY (Qb (Qb zd zj) zb);have z3:=DY (Qe (Qe z2 zj) zb);have zc:=DY (Qe (Qe z5 zj) zb);have ze:=DY (show w5.heap[w4.heap.size]?=some (.cells #[.int .i64 n.t, .bool n.leaf, .slice A3 n.keys.length c3, .slice A4 n.vals.length c4] 113) by rw[zi];exact heap_alloc_new _ _);have zq:=DY ((zv.keep zb).mono zd.out.size);clear hr zv zj zb z2 z5 zw zd;go_upto_region 9 with fail
 rw[<-zi];clear zi;by_cases he:er=0
 case neg=>
  have HN:=DY (show nq=none by rw[zg.out,HQ.out,if_neg he]);have k:=fun V=>HT.out _ he V
  have d1:(er !=0)=true:=by rw[bne_iff_ne];exact he
  have q0:=Qa z3 0 rfl;have q1:=Qa z3 1 rfl;have q2:=Qa z3 2 rfl;have q3:=Qa z3 3 rfl;have r0:=Qa zc 0 rfl;have r1:=Qa zc 1 rfl;have r2:=Qa zc 2 rfl;have r3:=Qa zc 3 rfl;clear he HT ze zq HQ zg;go_upto_region 10 with fail
  go_region_with(go_at_call 149;refine(k _).mono ?_;rintro e w9 ⟨v,rfl,hv,z4⟩;replace z4:Below w5.heap.size w5 w9:=Jg z4;have HV:=DY hv;have zl:=DY (Qb zr.out z4);have z1:=DY (Qe z3.out z4);have q0:=Qa z1.out 0 rfl;have q1:=Qa z1.out 1 rfl;have q2:=Qa z1.out 2 rfl;have q3:=Qa z1.out 3 rfl;have z7:=Qe zc.out z4;have r0:=Qa z7 0 rfl;have r1:=Qa z7 1 rfl;have r2:=Qa z7 2 rfl;have r3:=Qa z7 3 rfl;have f0:=Qf z1.out 0;have f1:=Qf z1.out 1;have f2:=Qf z1.out 2;have f3:=Qf z1.out 3;clear hv z4 z7)
  all_goals (go_wp2;(try simp only[Exit.inBlock,Exit.then]);refine bodyPost_ret (v:= .tuple #[.agg #[.int .i64 0, .bool false, .slice none 0 0, .slice none 0 0],v]) (by rw[results_cell_tmp rfl];go_simp) rfl ?_;exact VE.err (by exact HN.out) HV zl z1 (ZQ _ _ _ _ _ _))
 have HN:=DY (show nq=some n by rw[zg.out,HQ.out,if_pos he]);subst he;have q0:=Qa z3 0 rfl;have q1:=Qa z3 1 rfl;have q2:=Qa z3 2 rfl;have q3:=Qa z3 3 rfl;have r0:=Qa ze 0 rfl;have r1:=Qa ze 1 rfl;have r2:=Qa ze 2 rfl;have r3:=Qa ze 3 rfl;have f0:=Qf z3 0;have f1:=Qf z3 1;have f2:=Qf z3 2;have f3:=Qf z3 3;clear HT HQ zg zc;go_wp2
 (try simp only[Exit.inBlock,Exit.then])
 refine bodyPost_ret (v:= .tuple #[.agg #[.int .i64 n.t, .bool n.leaf, .slice A3 n.keys.length c3, .slice A4 n.vals.length c4], .nilIface]) (by rw[results_cell_tmp rfl];go_simp) rfl ?_;exact⟨.inl ⟨n,A3,c3,A4,c4,HN.out,rfl,zq.out.set4 z3 _ _ _ _⟩,Zf zr _ _ _ _⟩
theorem bnode_any{w:World}{B g:Nat}{A:Option Addr}{c:Nat}{bs:List UInt8}(h:Img w B g A c bs)(no tree:Int):
  Calls prog 55 #[.pointer (some ⟨g,0,none⟩), .int .i64 no, .int .i64 tree] w (VE (ZD bs no tree) w):=by
 obtain⟨w1,z1,z5,-⟩:=DT w (.cells #[.int .i64 tree] 3) (.cells #[.int .i64 0, .bool false, .slice none 0 0, .slice none 0 0] 113);have hp:w1.cell? ⟨w.heap.size,0,none⟩=some (.int .i64 tree):=by rw[z1];exact Qa (Qj (heap_alloc_new w _) _) 0 rfl
 have z7:w1.heap[w.heap.size+1]?=some (.cells #[.int .i64 0, .bool false, .slice none 0 0, .slice none 0 0] 113):=by
  rw[z1,show w.heap.size+1=(w.alloc (.cells #[.int .i64 tree] 3)).heap.size by simp]
  exact heap_alloc_new _ _
 have hr:=readN_any (h.below z5) no tree ⟨w.heap.size,0,none⟩ hp;have z3:=DY z5;have z8:=DY z7;clear h z5 hp z7;generalize ZD bs no tree=nq at*;go_enter func55,ntmps55
 go_upto_region 1 with fail
 rw[show(w.alloc (.cells #[.int .i64 tree] 3)).alloc (.cells #[.int .i64 0, .bool false, .slice none 0 0, .slice none 0 0] 113)=w1 from z1.symm]
 clear z1;go_wp2_with fail
 refine hr.mono ?_;rintro e w2 ⟨h,z4⟩;have z2:=DY (Qb z3 z4);have z0:=DY (Qe z8 z4);have q0:=Qa z0 0 rfl;have q1:=Qa z0 1 rfl;have q2:=Qa z0 2 rfl;have q3:=Qa z0 3 rfl;have f0:=Qf z0 0;have f1:=Qf z0 1;have f2:=Qf z0 2;have f3:=Qf z0 3;have HS:=DY (show w.heap.size<=w1.heap.size from z3.out.size);clear hr z4 z8 z3;rcases h with⟨n,A3,c3,A4,c4,hq,rfl,z6⟩|⟨hq,v,rfl,hv⟩
 ·have HN:=DY (z6.mono HS);have HQ:=DY hq;clear z6 hq HS;go_wp2
  (try simp only[Exit.inBlock,Exit.then])
  refine bodyPost_ret (v:= .tuple #[.agg #[.int .i64 n.t, .bool n.leaf, .slice A3 n.keys.length c3, .slice A4 n.vals.length c4], .nilIface]) (by rw[results_cell_tmp rfl];go_simp) rfl ?_;refine⟨.inl ⟨n,A3,c3,A4,c4,HQ.out,rfl,HN.out.set4 z0 _ _ _ _⟩,z2.out.grown (ZQ _ _ _ _ _ _) z2.out.size (fun k hk=>by cases hk;omega)⟩
 ·have HV:=DY hv;have HQ:=DY hq;clear hv hq HS;go_wp2
  (try simp only[Exit.inBlock,Exit.then])
  refine bodyPost_ret (v:= .tuple #[.agg #[.int .i64 0, .bool false, .slice none 0 0, .slice none 0 0],v]) (by rw[results_cell_tmp rfl];go_simp) rfl ?_;exact⟨.inr ⟨HQ.out,v,rfl,(HV.out.grown z0.out (by decide) (ZQ _ _ _ _ _ _)).more (ZQ _ _ _ _ _ _).size⟩,z2.out.grown (ZQ _ _ _ _ _ _) z2.out.size (fun k hk=>by cases hk;omega)⟩
section
variable {P:Program}
theorem Qw{fn:Func}{p u:Tmp}{ty:TypeId}(h:fn.results=#[.cell p ty, .tmp u])(tmps:Array Value)(w:World)(g:Nat)(t:TypeId)(cs:Array Value)(fr:Nat×Nat)(d:TypeDesc)
  (hp:tmps.getD p undef= .pointer (some ⟨g,0,none⟩)) (hg:w.heap[g]?=some (.cells cs t fr))
  (hu:P.underlying ty=some d) (hd:(match d with| .struct _| .array _ _=>true|_=>false)=true) (hi:(P.info? ty).map (·.size)=some cs.size):
  (results fn tmps).run P w= .ok (.tuple #[.agg cs,tmps.getD u undef]) w:=by
 rw[results_cell_tmp h,hp];simp[asAddr,Result.andThen,run_loadVar_row w g t ty cs fr d hg hu hd hi]
end
theorem ZP(n:Nat->Int):∀v∈(QQ n).toList,v.oneCell'=true:=by
 intro v hv;simp[QQ] at hv;rcases hv with rfl|rfl|rfl|rfl|rfl|rfl|rfl|rfl|rfl|rfl|rfl<;>rfl
theorem ZJ(n:Nat->Int):(prog.info? 65).map (·.size)=some (QQ n).size:=by
 rw[show(QQ n).size=11 from rfl]
 kernel_rfl
theorem read_super(A:Option Addr)(c:Nat)(l:List UInt8)(w:World)(hm:l.length<=reachBytes)(h:Qh w w.heap.size A (bv l)):
  Calls prog 85 #[.slice A l.length c] w fun e w'=>e= .returned (.tuple #[.agg (QQ (Z8 l)), .int .i64 (X9 l)])/\Below w.heap.size w w':=by
 have zB:=hm;simp only[reachBytes] at zB;have zc:=ZJ fun _=>0
 by_cases hl:l.length=244
 ·have hp:=fun W=>Ej (ZT l) (fun i _=>by
   have:=readN_lt l i;simp[Lit.wf,IntKind.min,IntKind.max,IntKind.bits,IntKind.signed];omega) W
  have zi:QQ (midN l 11)=QQ (ZT l):=supC_congr fun i hi=>if_pos hi
  have z3:=ZJ (ZT l);have zq:=ZP (ZT l);have zw:=fun wb g b r W h=>Dw l hl wb g b r A c W h
  have z9:=fun A1 c1 W B B2 h1 h2=>equalb_any A1 c1 A c (VG (ZT l)) l W B B2 (by rw[Ji];decide) hm h1 h2
  rw[Ji,hl] at z9;have HB:Hid (QQ (midN l 0)=QQ fun _=>0):=rfl;have zh:((w.alloc (.cells #[.slice A l.length c] 22)).alloc (.cells (QQ fun _=>0) 65)).heap[w.heap.size+1]?=some (.cells (QQ fun _=>0) 65):=by
   have:=heap_alloc_new (w.alloc (.cells #[.slice A l.length c] 22)) (.cells (QQ fun _=>0) 65);rw[Nr] at this;exact this
  have zu:Boxed ((w.alloc (.cells #[.slice A l.length c] 22)).alloc (.cells (QQ fun _=>0) 65)) w.heap.size 22 (.slice A l.length c):=(Boxed.new w _ _).alloc _;have zk:=QG w (.cells #[.slice A l.length c] 22) (.cells (QQ fun _=>0) 65);have zr:=h.below zk;have zm:((w.alloc (.cells #[.slice A l.length c] 22)).alloc (.cells (QQ fun _=>0) 65)).heap.size=w.heap.size+2:=by simp
  have h0:∀wb:World,wb.heap.size=w.heap.size+2->Boxed wb w.heap.size 22 (.slice A l.length c)->Qh wb w.heap.size A (bv l)->
    GG l wb (w.heap.size+2) w.heap.size (w.heap.size+3) A c 0 ((wb.alloc (.cells (QQ fun _=>0) 65)).alloc (.cells #[.int .i64 12] 3)):=by
   intro wb hs hb hr;have e1:=heap_alloc_new wb (.cells (QQ fun _=>0) 65);have e2:=Boxed.new (wb.alloc (.cells (QQ fun _=>0) 65)) 3 (.int .i64 12);rw[Nr] at e2;rw[hs] at e1 e2;refine⟨by rw[HB.out];exact Qj e1 _,(hb.alloc _).alloc _,e2,?_,QG wb _ _,by omega,by omega⟩
   exact(hr.more (by omega)).below (QG wb _ _)
  have hZ:∀wb:World,wb.alloc (.cells (QQ fun _=>0) 65)=wb.alloc (.cells #[.int .i64 0, .int .i64 0, .int .i64 0, .int .i64 0, .int .i64 0, .int .i64 0, .int .i64 0, .int .i64 0, .int .i64 0, .int .i64 0, .int .i64 0] 65):=fun _=>rfl
  obtain⟨wb,zl⟩:∃wb,(w.alloc (.cells #[.slice A l.length c] 22)).alloc (.cells #[.int .i64 0, .int .i64 0, .int .i64 0, .int .i64 0, .int .i64 0, .int .i64 0, .int .i64 0, .int .i64 0, .int .i64 0, .int .i64 0, .int .i64 0] 65)=wb:=⟨_,rfl⟩;rw[hZ,zl] at zh zu zk zr zm;have zs:=h0 wb zm zu zr;rw[hZ] at zs;have hr0':wb.heap.size>w.heap.size+1:=by omega
  have zz:=DY zl;have HL:=DY hl;have zC:=DY zm;have zy:=DY h;have HV:=DY (show∀ok,okS (ZT l) 11=ok->XT (ZT l)=(if ok=true then VG (ZT l) else [])/\JP (ZT l)=(if ok=true then 0 else 1) from fun ok h=>by unfold XT JP;rw[h];exact⟨rfl,rfl⟩);have HF:=DY (show∀ok,okS (ZT l) 11=ok->∀q,decide (VG (ZT l)=l)=q->Z8 l=(if(ok&&q)=true then ZT l else fun _=>0)/\X9 l=(if(ok&&q)=true then 0 else 7) from fun ok h q h2=>by
   have:JX l=(ok&&q):=by unfold JX;rw[decide_eq_true hl,h,h2];rfl
   unfold Z8 X9;rw[this];exact⟨rfl,rfl⟩)
  rw[hl] at zl ⊢;rw[hl] at zz;clear h0 hZ h zl;go_enter func85,ntmps85
  go_wp2_with fail
  rw[zz.out];refine(zw wb (w.heap.size+2) w.heap.size (w.heap.size+3) _ zs).mono ?_;rintro e w1 ⟨rfl,zA⟩;obtain⟨i1,i2,i3,i4,i5,-,-⟩:=zA;rw[zi] at i1;rw[HL.out] at i2;have z2:=Qe zh i5;have zn:Below w.heap.size w w1:=by
   have:=i5.mono (show w.heap.size<=wb.heap.size by omega);exact zk.trans this
  have zp:w.heap.size<=w1.heap.size:=zn.size;clear zw zs i3 i4 i5 zi zr zC zu hr0' zk zm zh HB;have zD:Hid ((QQ fun _=>0).size=(QQ (ZT l)).size):=rfl;have zo:=DY (Ji (ZT l));generalize hC:QQ (ZT l)=C at*;have HC:=DY hC;clear hC;generalize VG (ZT l)=SB at*;cases hok:okS (ZT l) 11 with
  |false=>
   obtain⟨v1,v2⟩:=HV.out false hok;have z8:=DY (HF.out false hok _ rfl);rw[v1,v2] at hp;clear v1 v2 hok HF HV z9;go_wp2_with (refine wpList_load_row rfl 65 _ rfl (w.heap.size+2) rfl 65 _ _ _ i1 underlying65 rfl z3 ?_)
   refine(hp _).mono ?_;rintro e w2 ⟨A2,c2,rfl,z5,z1⟩;have z0:=Qe z2 z1;have z6:=zn.trans (z1.mono zp);clear hp z5 z1 i1 i2 z2;go_wp2_with (refine Ql rfl 65 _ _ rfl (w.heap.size+1) (QQ fun _=>0) rfl rfl _ 65 z0 rfl zc (ZP _) ?_;intro W3 h3 zb zf)
   refine bodyPost_ret (v:= .tuple #[.agg (QQ fun _=>0), .int .i64 7]) (Qw (p:=2) (u:=3) rfl _ _ (w.heap.size+1) 65 (QQ fun _=>0) _ _ rfl h3 underlying65 rfl zc) rfl ⟨by rw[z8.out.1,z8.out.2];rfl,?_⟩
   exact z6.grown zb z6.size (fun k hk=>by cases hk;omega)
  |true=>
   obtain⟨v1,v2⟩:=HV.out true hok;rw[v1,v2] at hp;have zx:∀W,Calls prog 113 #[.agg C] W (Xl 5 (bv SB) 0 W):=hp;clear hp v1 v2;have hp:=zx;clear zx;cases hq:decide (SB=l) with
   |false=>
    have z8:=Lib.hid (HF.out true hok false hq);rw[hq] at z9;clear hok HF HV hq;go_wp2_with (refine wpList_load_row rfl 65 _ rfl (w.heap.size+2) rfl 65 _ _ _ i1 underlying65 rfl z3 ?_)
    refine(hp _).mono ?_;rintro e w2 ⟨A2,c2,rfl,z5,z1⟩;have z0:=Qe z2 z1;have z6:=zn.trans (z1.mono zp);have zj:Boxed w2 w.heap.size 22 (.slice A 244 c):=Qe i2 z1;have za:=zj.cell;have zg:=zy.out.below z6;rw[Qm,zo.out] at z5;rw[Qm,zo.out];have ze:=Qh.of_own z5;clear hp z5 z1 i1 i2 z2;go_wp2_with fail
    refine(z9 _ _ _ _ _ ze zg).mono ?_;rintro e w3 ⟨rfl,z7⟩;have z4:=Qe z0 z7;have zd:=Qb z6 z7;clear z9 z0 z7 ze zg zj za;go_wp2_with (refine Ql rfl 65 _ _ rfl (w.heap.size+1) (QQ fun _=>0) rfl rfl _ 65 z4 rfl zc (ZP _) ?_;intro W3 h3 zb zf)
    refine bodyPost_ret (v:= .tuple #[.agg (QQ fun _=>0), .int .i64 7]) (Qw (p:=2) (u:=3) rfl _ _ (w.heap.size+1) 65 (QQ fun _=>0) _ _ rfl h3 underlying65 rfl zc) rfl ⟨by rw[z8.out.1,z8.out.2];rfl,?_⟩
    exact zd.grown zb zd.size (fun k hk=>by cases hk;omega)
   |true=>
    have z8:=Lib.hid (HF.out true hok true hq);rw[hq] at z9;clear hok HF HV hq;go_wp2_with (refine wpList_load_row rfl 65 _ rfl (w.heap.size+2) rfl 65 _ _ _ i1 underlying65 rfl z3 ?_)
    refine(hp _).mono ?_;rintro e w2 ⟨A2,c2,rfl,z5,z1⟩;have zv:=Qe i1 z1;have z0:=Qe z2 z1;have z6:=zn.trans (z1.mono zp);have zj:Boxed w2 w.heap.size 22 (.slice A 244 c):=Qe i2 z1;have za:=zj.cell;have zg:=zy.out.below z6;rw[Qm,zo.out] at z5;rw[Qm,zo.out];have ze:=Qh.of_own z5;clear hp z5 z1 i1 i2 z2;go_wp2_with fail
    refine(z9 _ _ _ _ _ ze zg).mono ?_;rintro e w3 ⟨rfl,z7⟩;have zf:=Qe zv z7;have z4:=Qe z0 z7;have zd:=Qb z6 z7;clear z9 z0 z7 ze zg zj za zv;go_wp2_with (first|(refine wpList_load_row rfl 65 _ rfl (w.heap.size+2) rfl 65 _ _ _ zf underlying65 rfl z3 ?_)|(refine Ql rfl 65 _ _ rfl (w.heap.size+1) C rfl rfl _ 65 z4 zD.out z3 zq ?_;intro W3 h3 zb zf))
    refine bodyPost_ret (v:= .tuple #[.agg C, .int .i64 0]) (Qw (p:=2) (u:=3) rfl _ _ (w.heap.size+1) 65 C _ _ rfl h3 underlying65 rfl z3) rfl ⟨by rw[z8.out.1,z8.out.2,<-HC.out];rfl,?_⟩
    exact zd.grown zb zd.size (fun k hk=>by cases hk;omega)
 ·have zt:Z8 l=(fun _=>0)/\X9 l=7:=by
   have:JX l=false:=by unfold JX;rw[decide_eq_false hl];rfl
   unfold Z8 X9;rw[this];exact⟨rfl,rfl⟩
  rw[zt.1,zt.2];have d1:((l.length:Int) !=244)=true:=by simp;omega
  clear zt hl;have zh:(((w.alloc (.cells #[.slice A l.length c] 22)).alloc (.cells (QQ fun _=>0) 65)).alloc (.cells (QQ fun _=>0) 65)).heap[w.heap.size+1]?=some (.cells (QQ fun _=>0) 65):=by
   refine Qj ?_ _;have:=heap_alloc_new (w.alloc (.cells #[.slice A l.length c] 22)) (.cells (QQ fun _=>0) 65);rw[Nr] at this;exact this
  have zE:(((w.alloc (.cells #[.slice A l.length c] 22)).alloc (.cells (QQ fun _=>0) 65)).alloc (.cells (QQ fun _=>0) 65)).heap[w.heap.size+2]?=some (.cells (QQ fun _=>0) 65):=by
   have:=heap_alloc_new ((w.alloc (.cells #[.slice A l.length c] 22)).alloc (.cells (QQ fun _=>0) 65)) (.cells (QQ fun _=>0) 65);rw[Nr,Nr] at this;exact this
  have hB:Below w.heap.size w (((w.alloc (.cells #[.slice A l.length c] 22)).alloc (.cells (QQ fun _=>0) 65)).alloc (.cells (QQ fun _=>0) 65)):=(QG w _ _).alloc (by simp;omega) _;go_enter func85,ntmps85
  go_wp2_with (first|(refine wpList_load_row rfl 65 _ rfl (w.heap.size+2) rfl 65 _ _ _ zE underlying65 rfl zc ?_)|(refine Ql rfl 65 _ _ rfl (w.heap.size+1) (QQ fun _=>0) rfl rfl _ 65 zh rfl zc (ZP _) ?_;intro W3 h3 zb zf))
  refine bodyPost_ret (v:= .tuple #[.agg (QQ fun _=>0), .int .i64 7]) (Qw (p:=2) (u:=3) rfl _ _ (w.heap.size+1) 65 (QQ fun _=>0) _ _ rfl h3 underlying65 rfl zc) rfl ⟨rfl,?_⟩;exact hB.grown zb hB.size (fun k hk=>by cases hk;omega)
end Go.Proofs.YtijcgllddnpmhaaGreatDoor
