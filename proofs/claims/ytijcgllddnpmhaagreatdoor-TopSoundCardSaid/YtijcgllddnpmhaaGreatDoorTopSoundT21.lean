/- TopSound: lemmas, part 21. -/
import Derived.Test.YtijcgllddnpmhaaGreatDoorTopSoundT20
set_option maxRecDepth 100000
set_option maxHeartbeats 16000000
set_option linter.all false
namespace Go.Proofs.YtijcgllddnpmhaaGreatDoor
open Go.RowKit Go.Proofs.Tryz
section
open Go.RowKit Go.Shelf
attribute [local go_sem] Oper.semAt_some
def calmQ(Q:Exit->Act->World->Prop):Exit->Act->World->Prop
 | .normal,a,w=>Q .normal a w
 |_,_,_=>False
theorem wp_calm{P:Program}{c:Code}{Q:Exit->Act->World->Prop}{a:Act}{w:World}(h:c.wp P (calmQ Q) a w):c.wp P Q a w:=
 Code.wp_mono (fun e _ _ h=>by cases e<;>first|exact h|exact h.elim) h
theorem calm_out{Q:Exit->Act->World->Prop}{a:Act}{w:World}(h:Q .normal a w):calmQ Q .normal a w:=h
def Noted(base g m:Nat)(tree fuel:Int)(q:WkS)(w:World)(e:Ending)(w':World):Prop:=
 e= .returned (.tuple #[])/\∃q',q'.st=q.st.fail/\q'.way=q.way/\q'.nb=q.nb/\q'.fl.length=q.fl.length+1/\q'.Wy=q.Wy/\Wk w' base g m tree fuel q'/\WkE base w w'
theorem note_in(n:Nat)(hn:3<=n){w:World}{base g m:Nat}{tree fuel:Int}{q:WkS}(h:Wk w base g m tree fuel q)(v:Value)(hv:Qy 20 w w.heap.size v)(hw:q.way.length<=16)(hf:q.fl.length<=100000000):
  CallsIn Fence.wide n prog 235 #[.pointer (some ⟨g,0,none⟩),v] w (Noted base g m tree fuel q w):=by
 have h1:1<=n:=by omega
 obtain⟨i0,zJ,zD,zB,zC⟩:=info_parts Tryz.infoErr;obtain⟨A,c,hy⟩:=QN h.y;obtain⟨te,xe,rfl⟩:=hv.form;refine callsIn_of_wp_marks func235 rfl trivial ?_ rfl;simp only[ntmps235,List.size_toArray,No,NV,N9,La,NJ,NK,NR,NM,Np,NH];refine wpIn_wide.2 ?_;obtain⟨w1,zc,zm,-⟩:=DS w (.cells #[.iface te xe] 32);have zp:Boxed w1 w.heap.size 32 (.iface te xe):=by rw[zc];exact Boxed.new _ _ _
 have zv:w1.heap.size=w.heap.size+1:=by rw[zc];simp
 have h8:w1.cell? ⟨g,8,none⟩=some (.slice A q.way.length c):=by rw[<-hy];exact Qa (h.keep zm).bx 8 rfl
 have HH:=DY h;have HV:=DY hv;have zA:=DY zm;have zG:=DY zp;have za:=DY zv;have HY:=DY hy;have HLT:=DY h.lt;clear h hv zm zp zv hy;go_upto_region 1 with fail
 rw[<-zc];clear zc;go_wp2_with fail
 refine(callsIn_wide.1 (bwd_in 3 _ _ _ _)).mono ?_;rintro e w' ⟨rfl,rfl⟩;go_wp2_with fail
 refine(wpIn_wide (n:=n)).1 ?_;obtain⟨w2,zb⟩:=DR (w1.alloc (.cells #[.slice A q.way.length c] 68));have zo:w2.heap.size=w1.heap.size+1:=by rw[zb];simp
 have z9:Below w1.heap.size w1 w2:=by rw[zb];exact Qd _ _
 have bN:w2.heap[w1.heap.size]?=some (.cells #[.slice A q.way.length c] 68):=by rw[zb];exact heap_alloc_new _ _
 rw[<-zb];clear zb h8;have bE:Boxed w2 w.heap.size 32 (.iface te xe):=Qe zG z9;have z5:Below w.heap.size w w2:=Qb zA z9;have zk:=za.out;have zd:Qh w2 w.heap.size A (iv q.way):=by
  have:=HH.out.y;rw[HY.out] at this;exact(Qh.of_own this).below z5
 refine wpIn_rangeFunc_ownG rfl h1 (gf:=266) (lb:=#[.pointer (some ⟨w1.heap.size,0,none⟩)]) rfl trivial (enters_of func266 (by kernel_rfl) rfl)
  (bwd_stops (n-1) (by omega) w1.heap.size w.heap.size A c q.way (by omega) w2 (by omega) z5.size bN zd) KpC.trans (KpC.turn (by omega) (by omega) (by omega)) (D6 _ _) (fun _=>rfl)
  (fun z8 W=>DP w.heap.size (20+z8.length) W/\Below w.heap.size w2 W)
  (fun _ _ _=>False)
  (OwnFrom.and ((DP.own w.heap.size (fun z8:List (Un q.way)=>20+z8.length)).from _) (ownFrom_below (by omega) (by omega)))
  (fun _ _ _ _ _ hs _ _=>hs)
  ⟨⟨_,bE,(HV.out.ext z5)⟩,D6 _ _⟩
  (fun x=>{tmps:=#[.pointer (some ⟨g,0,none⟩), .iface te xe,undef, .pointer (some ⟨w.heap.size,0,none⟩),undef, .int .i64 (q.way.getD x.1 0), .pointer (some ⟨g,0,none⟩), .pointer (some ⟨g,0,none⟩), .pointer (some ⟨g,8,none⟩), .slice A q.way.length c,
   .func (.func 266) #[] #[.pointer (some ⟨w1.heap.size,0,none⟩)], .int .i64 (x.1:Int), .int .i64 (q.way.getD x.1 0),undef,undef,undef,undef,undef,undef,undef,undef,undef,undef,undef,undef,undef,undef,undef],defers:=[]}) ?assign ?body ?done ?stop
 case assign=>
  intro lp x W K hK;clear zo z9 bN bE z5 zk zd;generalize q.way.getD x.1 0=no at*;gi_wp2;exact hK
 case body=>
  rintro lp z8 x W ⟨⟨u,hu,z6⟩,hB⟩ hlt;have zl:=hB.size;obtain⟨tu,xu,rfl⟩:=z6.form;have hc:=hu.cell;have KA:=DY (Xk (20+z8.length) (q.way.getD x.1 0) (.iface tu xu) W z6);have HU:=DY hu;have HB:=DY hB;have zj:=DY (show w.heap.size+2<=W.heap.size by omega);clear hu z6 hB zl zo z9 bN bE z5 zk zd;generalize q.way.getD x.1 0=no at*;gi_wp2;refine⟨trivial,fun _=>by omega,?_⟩
  refine(CallsIn.inRound lp (callsIn_wide.2 KA.out)).mono ?_;rintro e W2 ⟨v2,rfl,zi,zh⟩;have ze:Boxed W2 w.heap.size 32 (.iface tu xu):=Qe HU zh;have DU:=ze.cell;have hf2:=ze.frozen;have zz:=DY zi;have zx:=DY ze;have z2:=DY zh;obtain⟨t2,x2,rfl⟩:=zi.form;clear zi ze zh KA hc;gi_wp2;have zw:=grownBy_setCell' W2 w.heap.size (.iface t2 x2);have zu:Below w.heap.size W W2:=z2.out.mono (by have:=zj.out;omega);refine⟨((KeepsOthers.of_grownBy (row:=none) ⟨z2.out.os,z2.out.tape,z2.out.output,z2.out.size,fun i hi _=>z2.out.block i hi⟩ (fun _ _ e _=>by cases e)).trans (KeepsOthers.setCell _ _ _)).from _,
   ⟨zu.setCell (p:=⟨w.heap.size,0,none⟩) (Na _) _,?_,?_⟩,
   ⟨_,zx.out.set _,?_⟩,(HB.out.trans zu).setCell (p:=⟨w.heap.size,0,none⟩) (Na _) _⟩
  ·exact(heap_setCell_other W2 ⟨w.heap.size,0,none⟩ _ _ (by have:=za.out;simp;omega)).trans (z2.out.block _ (by have:=zj.out;have:=za.out;omega))
  ·exact(heap_setCell_other W2 ⟨w.heap.size,0,none⟩ _ _ (by have:=za.out;simp;omega)).trans (z2.out.block _ (by have:=zj.out;have:=za.out;omega))
  ·rw[D7];exact((zz.out.grown zx.out (by decide) zw).more zw.size)
 case done=>
  rintro D ys W hD zq ⟨⟨u,hu,z6⟩,hB⟩ hK;have zl:=hB.size;have zf:Below w.heap.size w W:=z5.trans hB;have z1:=HH.out.keep zf;obtain⟨A4,c4,hF⟩:=QN z1.f;have k4:W.cell? ⟨g,4,none⟩=some (.slice A4 q.fl.length c4):=by rw[<-hF];exact Qa z1.bx 4 rfl
  obtain⟨tu,xu,rfl⟩:=z6.form;have kb:=hu.cell;have k4a:(W.alloc (.cells #[.iface tu xu] 32)).cell? ⟨g,4,none⟩=some (.slice A4 q.fl.length c4):=Qg (Qd W _) k4;have k4b:(W.drew.alloc (.cells #[.iface tu xu] 32)).cell? ⟨g,4,none⟩=some (.slice A4 q.fl.length c4):=Qg (Qd W.drew _) k4;have hlen:ys.length=q.way.length:=by
   have:=congrArg List.length zq;rw[NN,Ke] at this;omega
  have z3:Qy 40 W W.heap.size (.iface tu xu):=z6.up (by omega);have z7:=z1.keep (Qd W (.cells #[.iface tu xu] 32));have zt:Qy 40 (W.alloc (.cells #[.iface tu xu] 32)) (W.alloc (.cells #[.iface tu xu] 32)).heap.size (.iface tu xu):=z3.ext (Qd W _);have zF:=DY (fun(X':Value) (w2:World) (ho:w2.ownsRow base 32 1 X' (q.fl.length+1) (q.fl++[.iface tu xu])) (hg:(W.alloc (.cells #[.iface tu xu] 32)).grownBy w2 q.F.ownBlock)=>z7.pushF (.iface tu xu) zt X' w2 ho hg _ rfl)
  have zr:=DY z7.f;have zE:=DY (show base<=W.heap.size from z1.bs);have HWA:=DY (WkK.trans (WkK.of_below zf HH.out.bs) (WkK.of_below (Qd W (.cells #[.iface tu xu] 32)) z1.bs));have zK:=DY (fun(w2:World) (u:Value) (t1:w2.heap[g]?=some (.cells (q.cells m tree fuel) 326)) (hg:(W.alloc (.cells #[.iface tu xu] 32)).grownBy w2 q.F.ownBlock)=>
   ((WkE.of_below zf HH.out.bs).trans (WkE.of_below (Qd W (.cells #[.iface tu xu] 32)) z1.bs)).trans ((WkE.own z7.f z7.bs hg).trans (WkE.grown t1 (.inl rfl) z1.ge (Qo w2 g 4 u))))
  have zI:=DY (fun(w2:World) (u:Value) (hg:(W.alloc (.cells #[.iface tu xu] 32)).grownBy w2 q.F.ownBlock)=>(show(w2.setCell ⟨g,4,none⟩ u).heap[D]?=some (.deferred (some [])) from by
   have hx:(W.alloc (.cells #[.iface tu xu] 32)).heap[D]?=some (.deferred (some [])):=Qj hK _;refine(heap_setCell_other w2 ⟨g,4,none⟩ D u (fun e=>?_)).trans ((hg.block D (Zv hx) (fun e=>?_)).trans hx)
   ·have e:D=g:=e;subst e;have:=z7.bx;rw[hx] at this
    injection this with this
    cases this
   ·rcases z7.f.2 with⟨e2,_⟩|⟨g',cap,cur,e2,_,zg,_⟩
    ·rw[e2] at e;cases e
    ·rw[e2] at e
     injection e with e
     have e:D=g':=e;subst e;rw[hx] at zg
     injection zg with zg
     cases zg))
  have zs:=DY (show base<=D from D3 HH.out.bs (by omega));have HD:=DY (show w.heap.size<=D by omega);rw[hF] at zr;have zH:=DY hF;clear z1 hu z6 z3 zt z7 zf hB zl zq zo z9 bN bE z5 zk zd hD hK;go_upto_region 4 with fail
  refine wp_calm ?_;go_region_law (refine Yp _ rfl (.tmp 21) (.tmp 23) _ rfl base 1 32 i0 _ 16 underlying138 zJ zD zB zC rfl (by decide) (.slice A4 q.fl.length c4) q.fl.length q.fl rfl zr.out _ _ 1 1 [.iface tu xu] rfl rfl (Qh.new W [.iface tu xu] 32 (0,0)) (by simp[Value.oneCell']) (by simp only[maxLen];omega) (by omega) (by have:=zE.out;simp;omega) ?_;intro A9 c9 w9 z4 z0 zy;replace z0:(W.alloc (.cells #[.iface tu xu] 32)).grownBy w9 q.F.ownBlock:=(by rw[zH.out];exact⟨z0.os,z0.tape,z0.output,z0.size,z0.block⟩);obtain⟨t1,t2,t3⟩:=zF.out _ w9 z4 z0;have zn:=DY (zI.out w9 (.slice A9 (q.fl.length+1) c9) z0);have k9:=Qa t1 4 rfl;have f9:=Qf t1 4;have HT:=DY (DZ t2 (zK.out w9 (.slice A9 (q.fl.length+1) c9) t1 z0));clear t1 t2 t3 z4 z0 zy)
  all_goals (refine calm_out ?_;refine⟨by simp, .inl ⟨_,_,rfl,run_takeDeferred zn,?_⟩⟩;obtain⟨u1,u2⟩:=HT.out.1.turn (o':= .deferred none) zn rfl zs;exact⟨_,results_none rfl _ _ _,rfl,{q with F:= .slice A9 (q.fl.length+1) c9,fl:=q.fl++[.iface tu xu],st:=q.st.fail},rfl,rfl,rfl,by simp,rfl,u1,HT.out.2.trans (WkE.turn zn rfl zs HT.out.1.bs)⟩)
 case stop=>
  rintro D c z8 W _ _ h _;exact h.elim
theorem R5{w:World}{base g m:Nat}{tree fuel:Int}{q:WkS}(h:Wk w base g m tree fuel q)(v:Value)(hv:Qy 20 w w.heap.size v)(hw:q.way.length<=16)(hf:q.fl.length<=100000000):
  Calls prog 235 #[.pointer (some ⟨g,0,none⟩),v] w (Noted base g m tree fuel q w):=callsIn_wide.1 (note_in 3 (by omega) h v hv hw hf)
end
theorem indexI_any(A:Option Addr)(c:Nat)(l:List Int)(x:Int)(w:World)(B:Nat)(hm:l.length<=1000000)(h:Qh w B A (iv l)):
  Calls prog 267 #[.slice A l.length c, .int .i64 x] w fun e w'=>∃r:Int,e= .returned (.int .i64 r)/\decide (0<=r)=decide (x∈l)/\w=w':=by
 go_enter func267,ntmps267
 go_wp2_with fail
 go_loop [8] (fun i=>∃k:Nat,k<=l.length/\i= .int .i64 k/\Hid (∀j,j<k->l.getD j 0≠x)) (fun i=>l.length-(intOf i).toNat)
 case atStart=>exact⟨0,by omega,rfl,DY (fun j hj=>by omega)⟩
 case round=>
  obtain⟨k,hk,rfl,HZ⟩:=hrel;by_cases hlt:k<l.length
  ·obtain⟨ad,rfl,_,hc⟩:=h.num hlt;have HB:=DY (show l.getD k 0=l[k] by simp[D9,D1 hlt]);have HM:=DY (Nm hlt);generalize l[k]=y at*;by_cases hx:x=y
   ·have d1:(x==y)=true:=by rw[hx];simp
    have HX:=Lib.hid hx;clear hx;go_wp2;go_ret;exact⟨k,rfl,by rw[HX.out];exact⟨fun _=>HM.out,fun _=>by omega⟩,rfl⟩
   ·have d1:(x==y)=false:=by rw[beq_eq_false_iff_ne];exact hx
    have HX:=Lib.hid hx;clear hx;go_wp2;go_round
    case rel=>exact⟨k+1,by omega,by go_num,DY (fun j hj=>by
     rcases NC j k with h1|h1
     ·exact HZ j h1
     ·obtain rfl:j=k:=by omega
      rw[HB.out];exact fun e=>HX.out e.symm)⟩
    case measure=>simp[intOf];omega
  ·obtain rfl:k=l.length:=by omega
   have HN:=DY (show decide (x∈l)=false from decide_eq_false (fun hx=>by
    obtain⟨j,hj,e⟩:=List.getElem_of_mem hx;exact HZ.out j hj (by rw[<-e];simp[D9,D1 hj])))
   go_wp2;go_ret;exact⟨-1,rfl,⟨fun h=>absurd h (by decide),fun h=>absurd h (of_decide_eq_false HN.out)⟩,rfl⟩
theorem GS(A:Option Addr)(c:Nat)(l:List Int)(x:Int)(w:World)(B:Nat)(hm:l.length<=1000000)(h:Qh w B A (iv l)):
  Calls prog 257 #[.slice A l.length c, .int .i64 x] w fun e w'=>e= .returned (.bool (decide (x∈l)))/\w=w':=by
 have k:=indexI_any A c l x w B hm h;generalize decide (x∈l)=b at*;clear h;go_enter func257,ntmps257
 go_wp2_with fail
 refine k.mono ?_;rintro e w1 ⟨r,rfl,hr,rfl⟩;have HR:=DY hr;clear k hr;go_wp2;go_ret;exact⟨by have:=HR.out;first|(rw[<-this];rfl)|simp_all,rfl⟩
theorem Kk{P:Program}{fn:Func}{R:Ending->World->Prop}{a:Act}{w:World}(hr:fn.results=#[])(hd:a.defers=[])(hR:R (.returned (.tuple #[])) w):bodyPost P fn R .normal a w:=
 bodyPost_end (by simp[results,hr]) hd hR
def Yx(no:Int)(n:QF)(k:Nat):List Qv:=(List.range k).map fun i=>⟨n.keys.getD i 0,n.vals.getD i [],no⟩
theorem entsTo_next(no:Int)(n:QF)(k:Nat):Yx no n (k+1)=Yx no n k++[⟨n.keys.getD k 0,n.vals.getD k [],no⟩]:=by
 unfold Yx;rw[NU,List.map_append]
 rfl
theorem Ua(no:Int):∀(ks:List Int) (vs:List (List UInt8)),vs.length=ks.length->Zw no ks vs=(List.range ks.length).map fun i=>⟨ks.getD i 0,vs.getD i [],no⟩
 |[],[],_=>rfl
 |[],_::_,h=>by simp at h
 |_::_,[],h=>by simp at h
 |k::ks,v::vs,h=>by
  have ih:=Ua no ks vs (by simpa using h);rw[Zw,ih,No,List.range_succ_eq_map,Lg,List.map_map]
  rfl
theorem entsTo_all(no:Int)(n:QF)(h:n.vals.length=n.keys.length):Yx no n n.keys.length=Zw no n.keys n.vals:=by
 rw[Ua no _ _ h]
 rfl
theorem Tryz.infoEnt5:(prog.info? 146).map (fun i=>(i.zero,i.size,i.bytes))=some (some (.agg #[.int .i64 0, .string ByteArray.empty, .int .i64 0]),3,32):=by kernel_rfl
def Leafed(base g m:Nat)(tree fuel:Int)(q:WkS)(no:Int)(n:QF)(w:World)(e:Ending)(w':World):Prop:=
 e= .returned (.tuple #[])/\∃E',Wk w' base g m tree fuel {q with E:=E',st:={q.st with deep:=(q.way.length:Int)+1,ents:=q.st.ents++Zw no n.keys n.vals}}/\WkK base w w'
theorem leaf_any{w:World}{base g m:Nat}{tree fuel:Int}{q:WkS}(h:Wk w base g m tree fuel q)(no:Int)(n:QF)(A:Option Addr)(c:Nat)(A2:Option Addr)(c2:Nat)(hn:VQ w base n A c A2 c2)
  (hk:n.keys.length<=18) (hvl:n.vals.length=n.keys.length) (hw:q.way.length<=16) (he:q.st.ents.length<=100000000):
  Calls prog 237 #[.pointer (some ⟨g,0,none⟩), .int .i64 no, .agg #[.int .i64 n.t, .bool n.leaf, .slice A n.keys.length c, .slice A2 n.vals.length c2]] w (Leafed base g m tree fuel q no n w):=by
 obtain⟨ei,zn,zx,zq,zl⟩:=info_parts Tryz.infoEnt5;obtain⟨Ay,cy,hy⟩:=QN h.y;obtain⟨w1,zf,zb,ze⟩:=DS w (.cells #[.int .i64 n.t, .bool n.leaf, .slice A n.keys.length c, .slice A2 n.vals.length c2] 113);have z0:=h.keep zb;have k8:w1.cell? ⟨g,8,none⟩=some (.slice Ay q.way.length cy):=by rw[<-hy];exact Qa z0.bx 8 rfl
 have k2:w1.cell? ⟨g,2,none⟩=some (.int .i64 q.st.deep):=Qa z0.bx 2 rfl;have f2:=Qf z0.bx 2;obtain⟨za,zg⟩:=z0.field 2 (.int .i64 ((q.way.length:Int)+1)) {q with st:={q.st with deep:=(q.way.length:Int)+1}} (by simp[WkS.cells]) rfl rfl rfl rfl rfl rfl rfl rfl rfl
 have HK:=DY ((WkK.of_below zb h.bs).trans zg);have z1:=hn.keep zb;have z7:=Qo w1 g 2 (.int .i64 ((q.way.length:Int)+1));have zy:=DY (show VQ (w1.setCell ⟨g,2,none⟩ (.int .i64 ((q.way.length:Int)+1))) base n A c A2 c2 from⟨z1.k.kept z7 (.inr (Qi z0.bx (by decide) z1.k).symm),z1.v.kept z7 (.inr (Qi z0.bx (by decide) z1.v).symm)⟩)
 have HX:=DY (show(w1.setCell ⟨g,2,none⟩ (.int .i64 ((q.way.length:Int)+1))).heap[w.heap.size]?=some (.cells #[.int .i64 n.t, .bool n.leaf, .slice A n.keys.length c, .slice A2 n.vals.length c2] 113) from(heap_setCell_other _ _ _ _ (by have:=h.lt;simp;omega)).trans ze)
 have zo:=DY za;have z5:=DY hvl;clear z0 za zg z1 z7 zb ze h hn hvl;have hwi:(q.way.length:Int)<=16:=by omega
 go_enter func237,ntmps237
 go_upto_region 1 with fail
 rw[<-zf];clear zf;go_upto_region 2 with fail
 clear k8 k2 f2;generalize w1.setCell ⟨g,2,none⟩ (.int .i64 ((q.way.length:Int)+1))=w2 at*;have x2:=Qa HX 2 rfl;have hki:(n.keys.length:Int)<=18:=by omega
 go_wp2_with fail
 clear x2;go_loopg [21] n.keys.length (fun gk s21 wr=>∃(k:Nat) (E':Value),k+gk=n.keys.length/\s21= .int .i64 k/\Wk wr base g m tree fuel {q with E:=E',st:={q.st with deep:=(q.way.length:Int)+1,ents:=q.st.ents++Yx no n k}}/\WkK base w2 wr/\VQ wr base n A c A2 c2)
 case atStart=>exact⟨0,q.E,by omega,rfl,by simpa[Yx] using zo.out,WkK.refl _ _,zy.out⟩
 case round=>
  obtain⟨k,E',hk,rfl,z3,zc,z6⟩:=hrel;have zh:=DY z3;have zd:=DY zc;have zr:=DY z6;by_cases hlt:k<n.keys.length
  ·obtain⟨E0,E1,hE⟩:=QI z3.e;dsimp only at hE;subst hE;obtain⟨N,hN⟩:=DR ((q.st.ents++Yx no n k).length);have hNb:N<=100000018:=by rw[hN];simp[Yx];omega
   have e0:wr.cell? ⟨g,0,none⟩=some (.slice E0 (q.st.ents++Yx no n k).length E1):=Qa z3.bx 0 rfl;rw[<-hN] at e0;obtain⟨ad,rfl,-,hc⟩:=(Qh.of_own z6.k) (by rw[QK];omega);have kc:=hc k (.int .i64 (n.keys.getD k 0)) (by rw[Ub n.keys k hlt];simp[D9,D1 hlt]);obtain⟨zi,rfl,-,DU⟩:=(Qh.of_own z6.v) (by rw[RB,z5.out];omega);have vc:=DU k (.string ⟨(n.vals.getD k []).toArray⟩) (by rw[sv_get n.vals k (by rw[z5.out];exact hlt)];simp[D9,D1 (show k<n.vals.length by rw[z5.out];exact hlt)]);have hx:=zd.out.2 _ _ _ _ HX.out (by decide) (by decide) (by decide) (by decide);have x3:wr.cell? ⟨w.heap.size,3,none⟩=some (.slice (some zi) n.vals.length c2):=Qa hx 3 rfl;have e0a:(wr.alloc (.cells #[.int .i64 (n.keys.getD k 0), .string ⟨(n.vals.getD k []).toArray⟩, .int .i64 no] 146)).cell? ⟨g,0,none⟩=some (.slice E0 N E1):=Qg (Qd wr _) e0;have e0b:(wr.drew.alloc (.cells #[.int .i64 (n.keys.getD k 0), .string ⟨(n.vals.getD k []).toArray⟩, .int .i64 no] 146)).cell? ⟨g,0,none⟩=some (.slice E0 N E1):=Qg (Qd wr.drew _) e0;have i0:(0:Int)<=(k:Int):=by omega
   have i1:(k:Int)<(n.keys.length:Int):=by omega
   have i3:(k:Int)<(n.vals.length:Int):=by rw[z5.out];omega
   have i4:k<n.vals.length:=by rw[z5.out];exact hlt
   have z9:=z3.keep (Qd wr (.cells #[.int .i64 (n.keys.getD k 0), .string ⟨(n.vals.getD k []).toArray⟩, .int .i64 no] 146));have z8:=z6.keep (Qd wr (.cells #[.int .i64 (n.keys.getD k 0), .string ⟨(n.vals.getD k []).toArray⟩, .int .i64 no] 146));have zu:=DY (fun(X':Value) (w2:World) (ho:w2.ownsRow base 146 3 X' (N+1) (ev (q.st.ents++Yx no n k)++[.int .i64 (n.keys.getD k 0), .string ⟨(n.vals.getD k []).toArray⟩, .int .i64 no])) (hg:(wr.alloc (.cells #[.int .i64 (n.keys.getD k 0), .string ⟨(n.vals.getD k []).toArray⟩, .int .i64 no] 146)).grownBy w2 (Value.slice E0 N E1).ownBlock)=>
    z9.pushE ⟨n.keys.getD k 0,n.vals.getD k [],no⟩ X' w2 (by rw[hN] at ho;exact ho) (by rw[hN] at hg;exact hg) _ rfl)
   have zs:=DY (fun(X':Value) (w2:World) (hg:(wr.alloc (.cells #[.int .i64 (n.keys.getD k 0), .string ⟨(n.vals.getD k []).toArray⟩, .int .i64 no] 146)).grownBy w2 (Value.slice E0 N E1).ownBlock) (hbx:w2.heap[g]?=some (.cells (WkS.cells {q with E:= .slice E0 (q.st.ents++Yx no n k).length E1,st:={q.st with deep:=(q.way.length:Int)+1,ents:=q.st.ents++Yx no n k}} m tree fuel) 326))=>
    (show VQ (w2.setCell ⟨g,0,none⟩ X') base n (some ad) c (some zi) c2 from by
     have j1:=z8.k.kept hg (by rw[hN];exact Zk z8.k z9.e (by decide));have j2:=z8.v.kept hg (by rw[hN];exact Zk z8.v z9.e (by decide));have z7:=Qo w2 g 0 X';exact⟨j1.kept z7 (.inr (Qi hbx (by decide) j1).symm),j2.kept z7 (.inr (Qi hbx (by decide) j2).symm)⟩))
   have zv:=DY (show(wr.alloc (.cells #[.int .i64 (n.keys.getD k 0), .string ⟨(n.vals.getD k []).toArray⟩, .int .i64 no] 146)).ownsRow base 146 3 (.slice E0 N E1) N (ev (q.st.ents++Yx no n k)) from by rw[hN];exact z9.e)
   have zt:=DY (show base<=wr.heap.size from z3.bs);have zj:=DY (zc.trans (WkK.of_below (Qd wr (.cells #[.int .i64 (n.keys.getD k 0), .string ⟨(n.vals.getD k []).toArray⟩, .int .i64 no] 146)) z3.bs));have zm:=DY (entsTo_next no n k);have HNN:=Lib.hid hN;clear z3 zc z6 z9 z8 hc DU hx zh zd zr hN;generalize n.keys.getD k 0=key at*;generalize n.vals.getD k []=val at*;go_upto_region 5 with fail
   go_region_law (refine Yp _ rfl (.tmp 31) (.tmp 40) _ rfl base 3 146 ei _ 32 underlying137 zn zx zq zl rfl (by decide) (.slice E0 N E1) N _ rfl zv.out _ _ 1 1 [.int .i64 key, .string ⟨val.toArray⟩, .int .i64 no] rfl rfl (Qh.new wr [.int .i64 key, .string ⟨val.toArray⟩, .int .i64 no] 146 (0,0)) (by simp[Value.oneCell']) (by simp only[maxLen];omega) (by omega) (by have:=zt.out;simp;omega) ?_;intro A9 c9 w9 z4 z2 zk;replace z2:(wr.alloc (.cells #[.int .i64 key, .string ⟨val.toArray⟩, .int .i64 no] 146)).grownBy w9 (Value.slice E0 N E1).ownBlock:=⟨z2.os,z2.tape,z2.output,z2.size,z2.block⟩;obtain⟨t1,t2,t3⟩:=zu.out _ w9 z4 z2;have zp:=DY (zs.out (.slice A9 (N+1) c9) w9 z2 t1);have k9:=Qa t1 0 rfl;have f9:=Qf t1 0;have HT:=DY (DZ t2 t3);clear t1 t2 t3 z4 z2 zk)
   all_goals
    (go_wp2
     go_roundg (gk-1)
     case measure=>omega
     case rel=>exact⟨k+1,_,by omega,by first|rfl|go_num,by rw[zm.out,<-NQ];exact HT.out.1,zj.out.trans HT.out.2,zp.out⟩)
  ·obtain rfl:k=n.keys.length:=by omega
   have zw:=DY (entsTo_all no n z5);clear z3 zc z6;go_wp2
   (try simp only[Exit.inBlock,Exit.then])
   refine Kk (by rfl) rfl ?_;exact⟨rfl,E',by rw[<-zw.out];exact zh.out,HK.out.trans zd⟩
end Go.Proofs.YtijcgllddnpmhaaGreatDoor
