/- TopSound: lemmas, part 19. -/
import Derived.Test.YtijcgllddnpmhaaGreatDoorTopSoundT15
import Derived.Test.YtijcgllddnpmhaaGreatDoorTopSoundT17
import Derived.Test.YtijcgllddnpmhaaGreatDoorTopSoundT16
set_option maxRecDepth 100000
set_option maxHeartbeats 16000000
set_option linter.all false
namespace Go.Proofs.YtijcgllddnpmhaaGreatDoor
open Go.RowKit Go.Proofs.Tryz
section
open Go.RowKit Go.Shelf
attribute [local go_sem] Oper.semAt_some
def OU(base bx g n:Nat)(f:Nat->Int×Int)(pre:List Nat)(W:World):Prop:=
 Boxed W bx 381 (.slice (some ⟨g,0,none⟩) n n)/\W.ownsRow base 329 2 (.slice (some ⟨g,0,none⟩) n n) n (pcs (UU f n pre))
theorem OU.own{keys:List Int}(base bx g n:Nat)(f:Nat->Int×Int)(h:List (Un keys)->List Nat):Own (fun(s:List (Un keys)) W=>OU base bx g n f (h s) W):=by
 rintro s X Y row ⟨hv,hr⟩ hg z0;refine⟨hv.kept hg (fun e'=>?_),hr.kept hg ?_⟩
 ·obtain⟨o,ho,hc⟩:=z0 bx e'.symm;rw[show X.heap[bx]?=_ from hv] at ho;cases ho;cases hc
 ·rcases hr.2 with⟨z1,_⟩|⟨g',cap,cur,z1,_,z2,_⟩
  ·cases z1
  ·right
   intro e';simp only[Value.slice.injEq,Li,Addr.mk.injEq,and_true,true_and] at z1;obtain⟨rfl,rfl⟩:=z1;obtain⟨o,ho,hc⟩:=z0 g (by rw[<-e'];rfl);rw[z2] at ho;cases ho;cases hc
theorem split13_in(n:Nat)(hn:3<=n)(A:Option Addr)(c:Nat)(keys:List Int)(lo hi:Int)(hm:keys.length<=1000)(hf:Z0 lo hi keys=true)(w:World)(hr:Qh w w.heap.size A (iv keys)):
  CallsIn Fence.wide n prog 238 #[.agg #[.int .i64 lo, .int .i64 hi], .slice A keys.length c] w fun e w'=>∃A' c',e= .returned (.slice A' keys.length c')/\w'.ownsRow w.heap.size 329 2 (.slice A' keys.length c') keys.length (pcs (Xh hi keys))/\Below w.heap.size w w':=by
 have h1:1<=n:=by omega
 obtain⟨i0,zy,zx,zv,zw⟩:=info_parts Tryz.infoSpan;refine callsIn_of_wp_marks func238 rfl trivial ?_ rfl;simp only[ntmps238,List.size_toArray,No,NV,N9,La,NJ,NK,NR,NM,Np,NH];refine wpIn_wide.2 ?_;obtain⟨w1,zk,zg,z9⟩:=DS w (.cells #[.int .i64 lo, .int .i64 hi] 329);have KF:=Ou A c keys lo hi w1 hm (hr.ext zg);rw[hf] at KF;have HR:=DY hr;have zn:=DY zg;have zo:=DY z9;obtain⟨e0,e1⟩:=DU z9;clear hr zg z9 hf;go_upto_region 1 with fail
 rw[<-zk];clear zk;go_wp2_with fail
 refine KF.mono ?_;rintro e w2 ⟨nn,rfl,zm,za⟩;obtain rfl:=zm.2 rfl;have zf:=DY (Qb zn za);have zu:=DY (Qe zo za);clear KF zm za zn zo e0 e1;have hmi:(keys.length:Int)<=1000:=by omega
 go_wp2_with (at_make;refine wpList_make_full _ rfl (.tmp 13) (.tmp 13) _ rfl w.heap.size 329 i0 _ 2 underlying381 zy zx zv .i64 .i64 keys.length keys.length keys.length rfl rfl rfl rfl (by rw[zw];omega) (by simp only[maxLen];omega) zf.out.size ?_;intro w3 z2 z7;rw[made_spans] at z2;have zd:Below w2.heap.size w2 w3:=(D6 _ _).grown z7 (Na _) (fun k hk=>by cases hk);have zB:=DY (Qb zf.out zd);have zz:=DY (Qe zu.out zd);have zA:=DY z2;have zi:=Qj zz.out (.cells #[.slice (some ⟨w2.heap.size,0,none⟩) keys.length keys.length] 381);have e0:=Qa zi 0 rfl;have e1:=Qa zi 1 rfl;have HG:=DY (show w2.heap.size<w3.heap.size from by
  rcases z2.2 with⟨hv,_⟩|⟨g',cap,cur,hv,_,zC,_⟩
  ·cases hv
  ·injection hv with h1 _ _
   injection h1 with h1
   injection h1 with h1 _ _
   rw[h1];exact Zv zC);clear z2 z7 zd zi)
 refine(callsIn_wide.1 (each_in 3 _ _ _ _ _ _)).mono ?_;rintro e w' ⟨rfl,rfl⟩;go_wp2_with fail
 refine(wpIn_wide (n:=n)).1 ?_;obtain⟨w5,z5⟩:∃w5,w5=((w3.alloc (.cells #[.slice (some ⟨w2.heap.size,0,none⟩) keys.length keys.length] 381)).alloc (.cells #[.int .i64 lo, .int .i64 hi] 329)).alloc (.cells #[.slice A keys.length c] 68):=⟨_,rfl⟩;have zq:w5.heap.size=w3.heap.size+3:=by rw[z5];simp
 have z8:Below w3.heap.size w3 w5:=by
  rw[z5];exact(((D6 _ w3).alloc (Na _) _).alloc (by simp) _).alloc (by simp;omega) _
 have bS:Boxed w5 w3.heap.size 381 (.slice (some ⟨w2.heap.size,0,none⟩) keys.length keys.length):=by rw[z5];exact((Boxed.new w3 _ _).alloc _).alloc _
 have bX:w5.heap[w3.heap.size+1]?=some (.cells #[.int .i64 lo, .int .i64 hi] 329):=by
  rw[z5];have:=heap_alloc_new (w3.alloc (.cells #[.slice (some ⟨w2.heap.size,0,none⟩) keys.length keys.length] 381)) (.cells #[.int .i64 lo, .int .i64 hi] 329);rw[Nr] at this;exact Qj this _
 have bN:w5.heap[w3.heap.size+1+1]?=some (.cells #[.slice A keys.length c] 68):=by
  rw[z5];have:=heap_alloc_new ((w3.alloc (.cells #[.slice (some ⟨w2.heap.size,0,none⟩) keys.length keys.length] 381)).alloc (.cells #[.int .i64 lo, .int .i64 hi] 329)) (.cells #[.slice A keys.length c] 68);rw[Nr,Nr] at this;exact this
 rw[<-z5];clear z5 e0 e1;have ze:=Qk zA z8;have z3:Below w.heap.size w w5:=Qb zB z8;have z7:=HG.out;have z6:=zf.out.size;refine wpIn_rangeFunc_ownH rfl h1 (gf:=270) (lb:=#[.pointer (some ⟨w3.heap.size+1,0,none⟩), .pointer (some ⟨w3.heap.size+1+1,0,none⟩)]) rfl trivial (enters_of func270 (by kernel_rfl) rfl)
  (each_stops (n-1) (by omega) (w3.heap.size+1) (w3.heap.size+1+1) w.heap.size A c keys lo hi hm w5 (by omega) (by omega) z3.size bX bN (HR.out.below z3)) KpC.trans (KpC.turn (by omega) (by omega) (by omega)) (D6 _ _) (fun _=>rfl)
  (fun z4 W=>OU w.heap.size w3.heap.size w2.heap.size keys.length (ZK hi keys) (z4.map (·.1)) W/\Below w.heap.size w5 W)
  (fun _ _ _=>False)
  (OwnFrom.and ((OU.own _ _ _ _ _ (fun z4:List (Un keys)=>z4.map (·.1))).from _) (ownFrom_below (by omega) (by omega)))
  (fun _ _ _ _ _ hs _ _=>hs)
  ⟨⟨bS,ze⟩,D6 _ _⟩
  (fun x a' W=>∃b,w5.heap.size<=b/\W.heap[b]?=some (.cells #[.int .i64 (ZK hi keys x.1).1, .int .i64 (ZK hi keys x.1).2] 329)/\a'={tmps:=#[.agg #[.int .i64 lo, .int .i64 hi], .slice A keys.length c, .pointer (some ⟨w.heap.size,0,none⟩),undef, .slice none 0 0, .pointer (some ⟨w3.heap.size,0,none⟩), .int .i64 (x.1:Int), .pointer (some ⟨b,0,none⟩),
   .agg #[.int .i64 lo, .int .i64 hi], .slice A keys.length c, .int .i64 0, .bool false, .slice A keys.length c, .int .i64 (keys.length:Int), .slice (some ⟨w2.heap.size,0,none⟩) keys.length keys.length, .agg #[.int .i64 lo, .int .i64 hi], .slice A keys.length c,
   .func (.func 270) #[] #[.pointer (some ⟨w3.heap.size+1,0,none⟩), .pointer (some ⟨w3.heap.size+1+1,0,none⟩)], .int .i64 (x.1:Int),U1 (ZK hi keys x.1),undef,undef,undef,undef,undef],defers:=[]})
  ?hAx ?assign ?body ?done ?stop
 case hAx=>
  rintro x a' _ W W' row ⟨b,hb,hh,ha⟩ hg zb;refine⟨b,hb,(hg.block b (Zv hh) (fun e=>?_)).trans hh,ha⟩;obtain⟨_,o,ho,hc⟩:=zb b e.symm;rw[hh] at ho;cases ho;cases hc
 case assign=>
  rintro lp z4 x W K ⟨⟨q1,q2⟩,hB⟩ hK;have zc:=hB.size;have HK:=DY (hK {tmps:=#[.agg #[.int .i64 lo, .int .i64 hi], .slice A keys.length c, .pointer (some ⟨w.heap.size,0,none⟩),undef, .slice none 0 0, .pointer (some ⟨w3.heap.size,0,none⟩), .int .i64 (x.1:Int), .pointer (some ⟨W.heap.size,0,none⟩),
   .agg #[.int .i64 lo, .int .i64 hi], .slice A keys.length c, .int .i64 0, .bool false, .slice A keys.length c, .int .i64 (keys.length:Int), .slice (some ⟨w2.heap.size,0,none⟩) keys.length keys.length, .agg #[.int .i64 lo, .int .i64 hi], .slice A keys.length c,
   .func (.func 270) #[] #[.pointer (some ⟨w3.heap.size+1,0,none⟩), .pointer (some ⟨w3.heap.size+1+1,0,none⟩)], .int .i64 (x.1:Int),U1 (ZK hi keys x.1),undef,undef,undef,undef,undef],defers:=[]}
   (W.alloc (.cells #[.int .i64 (ZK hi keys x.1).1, .int .i64 (ZK hi keys x.1).2] 329)) ((KeepsOthers.alloc W _).from _) ⟨Qd W _|>.mono (by omega),Below.heap_alloc W _ _ (by omega),Below.heap_alloc W _ _ (by omega)⟩
   ⟨⟨q1.alloc _,q2.alloc _⟩,hB.alloc (by omega) _⟩ ⟨W.heap.size,by omega,heap_alloc_new _ _,rfl⟩)
  clear hK;dsimp only[U1] at*;generalize (ZK hi keys x.1).1=s1 at*;generalize (ZK hi keys x.1).2=s2 at*;clear q1 q2 hB zc zq z8 bS bX bN ze z3 z7 z6;gi_wp2;exact HK.out
 case body=>
  rintro lp z4 ⟨x,hx⟩ a' W _ _ ⟨⟨q1,q2⟩,hB⟩ ⟨b,hb,hh,rfl⟩ zt;have zc:=hB.size;have hc:=q1.cell;obtain⟨d0,d1⟩:=DU hh;have hbg:b≠w2.heap.size:=by omega
  obtain⟨p0,zl⟩:∃p0,(UU (ZK hi keys) keys.length (z4.map (·.1)))[x]?=some p0:=⟨_,D1 (by rw[EH];exact hx)⟩;obtain⟨g0,g1⟩:=Rg _ _ _ zl;have z0:=q2.cellAt (x*2) (by omega);have z1:=q2.cellAt (x*2+1) (by omega);rw[g0] at z0;rw[g1] at z1;have y0:=q2.frozenAt (x*2);have y1:=q2.frozenAt (x*2+1);have zp:=fillP_snoc (ZK hi keys) keys.length (z4.map (·.1)) x;have zh:=pcs_set (ZK hi keys x) (UU (ZK hi keys) keys.length (z4.map (·.1))) x;rw[<-zp] at zh;obtain⟨t1,t2⟩:=q2.stored (x*2) (.int .i64 (ZK hi keys x).1);obtain⟨t3,t4⟩:=t1.stored (x*2+1) (.int .i64 (ZK hi keys x).2);rw[zh] at t3;have zr:=(q1.kept t2 (by intro e;injection e with e;omega)).kept t4 (by intro e;injection e with e;omega);have zj:=DY (show KeepsFrom w5.heap.size W ((W.setCell ⟨w2.heap.size,x*2,none⟩ (.int .i64 (ZK hi keys x).1)).setCell ⟨w2.heap.size,x*2+1,none⟩ (.int .i64 (ZK hi keys x).2))/\
    KpC w.heap.size (w3.heap.size+1) (w3.heap.size+1+1) W ((W.setCell ⟨w2.heap.size,x*2,none⟩ (.int .i64 (ZK hi keys x).1)).setCell ⟨w2.heap.size,x*2+1,none⟩ (.int .i64 (ZK hi keys x).2))/\
    (OU w.heap.size w3.heap.size w2.heap.size keys.length (ZK hi keys) ((z4++[(⟨x,hx⟩:Un keys)]).map (·.1)) ((W.setCell ⟨w2.heap.size,x*2,none⟩ (.int .i64 (ZK hi keys x).1)).setCell ⟨w2.heap.size,x*2+1,none⟩ (.int .i64 (ZK hi keys x).2))/\
    Below w.heap.size w5 ((W.setCell ⟨w2.heap.size,x*2,none⟩ (.int .i64 (ZK hi keys x).1)).setCell ⟨w2.heap.size,x*2+1,none⟩ (.int .i64 (ZK hi keys x).2))) from
   ⟨((KeepsOthers.setCell _ _ _).trans (KeepsOthers.setCell _ _ _)).from _,
    ⟨((D6 _ W).setCell (p:=⟨w2.heap.size,x*2,none⟩) z6 _).setCell (p:=⟨w2.heap.size,x*2+1,none⟩) z6 _,(heap_setCell_other _ _ _ _ (by simp;omega)).trans (heap_setCell_other _ _ _ _ (by simp;omega)),(heap_setCell_other _ _ _ _ (by simp;omega)).trans (heap_setCell_other _ _ _ _ (by simp;omega))⟩,
    ⟨zr,by rw[Ns];exact t3⟩,(hB.setCell (p:=⟨w2.heap.size,x*2,none⟩) z6 _).setCell (p:=⟨w2.heap.size,x*2+1,none⟩) z6 _⟩)
  have i0:(0:Int)<=(x:Int):=by omega
  have i1:(x:Int)<(keys.length:Int):=by omega
  have i2:(x:Int)<=1000:=by omega
  dsimp only[U1] at*;generalize (ZK hi keys x).1=s1 at*;generalize (ZK hi keys x).2=s2 at*;clear q1 q2 hB zc zq z8 bS bX bN ze z3 z7 z6 t1 t2 t3 t4 zr zh zp zl g0 g1 hh zt hb;gi_wp2;exact zj.out
 case done=>
  rintro D ys W hD zs ⟨⟨q1,q2⟩,hB⟩ hK;have hc:=q1.cell;rw[zs,fill_all] at q2;go_wp2;refine⟨by simp, .inl ⟨_,_,rfl,run_takeDeferred hK,?_⟩⟩
  exact⟨_,results_tmp rfl _ _ _,some ⟨w2.heap.size,0,none⟩,keys.length,rfl,ownsRow_putObj q2 (.deferred none) hK rfl,(z3.trans hB).trans (belowK_b (w:=w) (Na _) W D _ _ (by omega) hK rfl rfl)⟩
 case stop=>
  rintro D c z4 W _ _ h _;exact h.elim
theorem split13_any(A:Option Addr)(c:Nat)(keys:List Int)(lo hi:Int)(hm:keys.length<=1000)(hf:Z0 lo hi keys=true)(w:World)(hr:Qh w w.heap.size A (iv keys)):
  Calls prog 238 #[.agg #[.int .i64 lo, .int .i64 hi], .slice A keys.length c] w fun e w'=>∃A' c',e= .returned (.slice A' keys.length c')/\w'.ownsRow w.heap.size 329 2 (.slice A' keys.length c') keys.length (pcs (Xh hi keys))/\Below w.heap.size w w':=
 callsIn_wide.1 (split13_in 3 (by omega) A c keys lo hi hm hf w hr)
end
theorem Tryz.infoErr:(prog.info? 32).map (fun i=>(i.zero,i.size,i.bytes))=some (some .nilIface,1,16):=by kernel_rfl
structure WkS where
 E:Value
 Bk:Value
 F:Value
 Wy:Value
 st:WS
 nb:List Int
 way:List Int
 fl:List Value
def WkS.cells(q:WkS)(m:Nat)(tree fuel:Int):Array Value:=
 #[q.E,q.Bk, .int .i64 q.st.deep, .int .i64 q.st.looked,q.F, .pointer (some ⟨m,0,none⟩), .int .i64 tree, .int .i64 fuel,q.Wy, .bool q.st.dry]
structure Wk(w:World)(base g m:Nat)(tree fuel:Int)(q:WkS):Prop where
 bx:w.heap[g]?=some (.cells (q.cells m tree fuel) 326)
 e:w.ownsRow base 146 3 q.E q.st.ents.length (ev q.st.ents)
 b:w.ownsRow base 3 1 q.Bk q.nb.length (iv q.nb)
 f:w.ownsRow base 32 1 q.F q.fl.length q.fl
 y:w.ownsRow base 3 1 q.Wy q.way.length (iv q.way)
 ap:q.Bk.ownBlock=none∨q.Bk.ownBlock≠q.Wy.ownBlock
 fe:∀v∈q.fl,Qy 40 w w.heap.size v
 bad:q.st.bad=decide (q.fl≠[])
 ge:base<=g
structure WkB(q:WkS)(s:Int):Prop where
 eb:(q.st.ents.length:Int)<=18*q.st.looked
 bb:(q.nb.length:Int)<=q.st.looked
 fb:(q.fl.length:Int)<=19*q.st.looked+s
 l0:0<=q.st.looked
 l1:q.st.looked<=1000000
 d0:0<=q.st.deep
 d1:q.st.deep<=17
 s1:s<=100
def WkK(base:Nat)(w w':World):Prop:=
 Below base w w'/\∀(b:Nat) (cs:Array Value) (t:TypeId) (fz:Nat×Nat),w.heap[b]?=some (Obj.cells cs t fz)->t≠326->t≠146->t≠3->t≠32->w'.heap[b]?=some (Obj.cells cs t fz)
theorem WkK.refl(base:Nat)(w:World):WkK base w w:=⟨D6 _ _,fun _ _ _ _ h _ _ _ _=>h⟩
theorem WkK.trans{base:Nat}{a b c:World}(h:WkK base a b)(k:WkK base b c):WkK base a c:=
 ⟨h.1.trans k.1,fun x cs t fz hx h1 h2 h3 h4=>k.2 x cs t fz (h.2 x cs t fz hx h1 h2 h3 h4) h1 h2 h3 h4⟩
theorem WkK.of_below{base:Nat}{w w':World}(hb:Below w.heap.size w w')(hB:base<=w.heap.size):WkK base w w':=
 ⟨hb.mono hB,fun _ _ _ _ h _ _ _ _=>Qe h hb⟩
theorem WkK.grown{base:Nat}{w w':World}{r:Nat}{cs:Array Value}{t:TypeId}{fz:Nat×Nat}(hr:w.heap[r]?=some (Obj.cells cs t fz))(ht:t=326∨t=146∨t=3∨t=32)(hB:base<=r)(hg:w.grownBy w' (some r)):WkK base w w':=
 ⟨(D6 _ _).grown hg (Lk (LG hB (Zv hr))) (fun k hk=>by cases hk;exact hB),fun b cs' t' fz' h h1 h2 h3 h4=>(hg.block b (Zv h) (fun e=>by
  injection e with e
  subst e;rw[h] at hr
  injection hr with hr
  injection hr with _ e _
  subst e;rcases ht with e|e|e|e<;>exact absurd e (by assumption))).trans h⟩
theorem WkK.own{base n s:Nat}{w w':World}{e:TypeId}{v:Value}{xs:List Value}(ho:w.ownsRow base e s v n xs)(ht:e=326∨e=146∨e=3∨e=32)(hB:base<=w.heap.size)(hg:w.grownBy w' v.ownBlock):WkK base w w':=by
 rcases ho.2 with⟨rfl,_⟩|⟨g,cap,cur,rfl,hb,z0,_⟩
 ·exact⟨(D6 _ _).grown hg hB (fun k hk=>by cases hk),fun b cs t fz h _ _ _ _=>(hg.block b (Zv h) (fun e=>by cases e)).trans h⟩
 ·exact WkK.grown z0 ht hb hg
theorem WkK.err{base d:Nat}{w w':World}{v:Value}(h:WkK base w w')(hv:Qy d w w.heap.size v):Qy d w' w'.heap.size v:=
 (hv.kept (fun g cs hx=>h.2 g cs 179 _ hx (by decide) (by decide) (by decide) (by decide))).more h.1.size
section
variable {w w':World} {base g m:Nat} {tree fuel:Int} {q:WkS}
theorem Wk.lt(h:Wk w base g m tree fuel q):g<w.heap.size:=Zv h.bx
theorem Wk.bs(h:Wk w base g m tree fuel q):base<=w.heap.size:=D3 h.ge (Lk h.lt)
theorem Wk.keep(h:Wk w base g m tree fuel q)(hb:Below w.heap.size w w'):Wk w' base g m tree fuel q:=
 ⟨Qe h.bx hb,Qk h.e hb,QT h.b hb,QT h.f hb,QT h.y hb,h.ap,fun v hv=>(h.fe v hv).ext hb,h.bad,h.ge⟩
theorem Wk.field(h:Wk w base g m tree fuel q)(k:Nat)(v:Value)(q':WkS)(hc:q'.cells m tree fuel=(q.cells m tree fuel).setIfInBounds k v)
  (h1:q'.E=q.E) (h2:q'.Bk=q.Bk) (h3:q'.F=q.F) (h4:q'.Wy=q.Wy) (h5:q'.st.ents=q.st.ents) (h6:q'.nb=q.nb) (h7:q'.fl=q.fl) (h8:q'.way=q.way) (h9:q'.st.bad=q.st.bad):
  Wk (w.setCell ⟨g,k,none⟩ v) base g m tree fuel q'/\WkK base w (w.setCell ⟨g,k,none⟩ v):=by
 have hg:=Qo w g k v;have hK:WkK base w (w.setCell ⟨g,k,none⟩ v):=WkK.grown h.bx (.inl rfl) h.ge hg;refine⟨⟨?_,?_,?_,?_,?_,?_,?_,?_,h.ge⟩,hK⟩
 ·rw[hc];exact heap_setCell_same w g k _ _ v h.bx
 ·rw[h1,h5];exact h.e.kept hg (.inr (Qi h.bx (by decide) h.e).symm)
 ·rw[h2,h6];exact h.b.kept hg (.inr (Qi h.bx (by decide) h.b).symm)
 ·rw[h3,h7];exact h.f.kept hg (.inr (Qi h.bx (by decide) h.f).symm)
 ·rw[h4,h8];exact h.y.kept hg (.inr (Qi h.bx (by decide) h.y).symm)
 ·rw[h2,h4];exact h.ap
 ·rw[h7];intro v hv;exact hK.err (h.fe v hv)
 ·rw[h9,h7];exact h.bad
end
theorem devsOk_cons(data last:Int)(d:Q4)(r:List Q4):Yy data last (d::r)=((devB d&&decide (last<d.id))&&(XK data (-1) d.maps&&Yy data d.id r)):=by
 conv=>lhs;unfold Yy
 unfold devB;simp only[Bool.and_assoc]
theorem Dk(p:Xe):Xx p=(JN p.tx [p.time]&&(inI p.unit_ 1 65536&&(inI p.data 0 65536&&(decide (p.devs.length<=4096)&&(decide (ZL p<=16384)&&Yy p.data (-1) p.devs))))):=by
 unfold Xx JN UY;simp[Bool.and_assoc]
theorem U6(p:Xe)(A:Option Addr)(c:Nat)(w:World)(hm:p.devs.length<=1000000000)(hs:ZL p<=1000000000000000000)(hl:∀d∈p.devs,d.maps.length<=1000000000)(h:X5 w w.heap.size A p.devs):
  Calls prog 12 #[Yc p A c] w fun e w'=>∃r:Int,e= .returned (.int .i64 r)/\decide (r=0)=Xx p/\Below w.heap.size w w':=by
 obtain⟨wa,zp,zb,zc⟩:=DS w (.cells #[.int .i64 p.tx, .int .i64 p.time, .int .i64 p.unit_, .int .i64 p.data, .slice A p.devs.length c] 28);obtain⟨wb,za,z5,-⟩:=DS wa (.cells #[.int .i64 p.time] 3);have KT:=G7 p.tx (some ⟨wa.heap.size,0,none⟩) 1 [p.time] wb _ (by simp[reachBytes]) (by rw[za];exact Qh.new wa (iv [p.time]) 3 (0,0));have K1:=Vy p.unit_ 1 65536 wb;have K2:=Vy p.data 0 65536 wb;have KC:=RZ p A c wb hm hs ((h.ext zb).ext z5);have HB:=DY (Qb zb z5);have HM:=DY h;have HL:=DY hl;have HP:=DY (Dk p);have zq:=DY (show inI p.data 0 65536=true->0<=p.data/\p.data<=65536 from of_decide_eq_true);obtain⟨k0,k1⟩:=DU zc;have HK:=DY (Qe zc z5);have v0:=Qa HK 0 rfl;have v1:=Qa HK 1 rfl;have v2:=Qa HK 2 rfl;have v3:=Qa HK 3 rfl;have v4:=Qa HK 4 rfl;clear h zb zc hs hl z5;unfold Yc at KC ⊢;generalize Xx p=q at*;generalize ZL p=cn at*;generalize p.tx=x0 at*;generalize p.time=x1 at*;generalize p.unit_=x2 at*;generalize p.data=x3 at*;generalize p.devs=l at*;generalize JN x0 [x1]=b0 at*;generalize inI x2 1 65536=b1 at*;generalize inI x3 0 65536=b2 at*;have hmi:(l.length:Int)<=1000000000:=by omega
 go_enter func12,ntmps12
 go_upto_region 1 with fail
 rw[show w.alloc (.cells #[.int .i64 x0, .int .i64 x1, .int .i64 x2, .int .i64 x3, .slice A l.length c] 28)=wa from zp.symm]
 clear zp;go_wp2_with fail
 rw[show wa.alloc (.cells #[.int .i64 x1] 3)=wb from za.symm]
 clear za k0 k1;refine KT.mono ?_;rintro e w2 ⟨rfl,rfl⟩;clear KT;cases b0 with
 |false=>
  clear K1 K2 KC v0 v1 v2 v3 v4;go_wp2;go_ret;exact⟨2,rfl,by rw[HP.out];rfl,HB.out⟩
 |true=>
  cases b1 with
  |false=>
   clear K2 KC;go_wp2_with fail
   refine K1.mono ?_;rintro e w2 ⟨rfl,rfl⟩;clear K1 v0 v1 v2 v3 v4;go_wp2;go_ret;exact⟨2,rfl,by rw[HP.out];rfl,HB.out⟩
  |true=>
   go_wp2_with fail
   refine K1.mono ?_;rintro e w2 ⟨rfl,rfl⟩;clear K1;cases b2 with
   |false=>
    clear KC;go_wp2_with fail
    refine K2.mono ?_;rintro e w2 ⟨rfl,rfl⟩;clear K2 v0 v1 v2 v3 v4;go_wp2;go_ret;exact⟨2,rfl,by rw[HP.out];rfl,HB.out⟩
   |true=>
    go_wp2_with fail
    refine K2.mono ?_;rintro e w2 ⟨rfl,rfl⟩;clear K2;by_cases hl4:l.length<=4096
    case neg=>
     have d1:decide (4096<l.length)=true:=decide_eq_true (by omega);have zl:decide ((4096:Int)<(l.length:Int))=true:=decide_eq_true (by omega);have HF:=DY (show q=false by rw[HP.out,decide_eq_false hl4];rfl);clear hl4 KC;go_wp2;go_ret;exact⟨2,rfl,by rw[HF.out];rfl,HB.out⟩
    have d1:decide (4096<l.length)=false:=decide_eq_false (by omega);have zl:decide ((4096:Int)<(l.length:Int))=false:=decide_eq_false (by omega);have zr:=Lib.hid hl4;clear hl4;go_wp2_with fail
    refine KC.mono ?_;rintro e w3 ⟨rfl,z3⟩;by_cases DW:cn<=16384
    case neg=>
     have d2:decide (16384<cn)=true:=decide_eq_true (by omega);have zm:decide ((16384:Int)<(cn:Int))=true:=decide_eq_true (by omega);have HF:=DY (show q=false by rw[HP.out,decide_eq_false DW];simp);have z2:=DY (Qb HB z3);clear DW KC z3 v0 v1 v2 v3 v4;go_wp2;go_ret;exact⟨2,rfl,by rw[HF.out];rfl,z2.out⟩
    have d2:decide (16384<cn)=false:=decide_eq_false (by omega);have zm:decide ((16384:Int)<(cn:Int))=false:=decide_eq_false (by omega);have HQ:=Lib.hid (show q=Yy x3 (-1) l by rw[HP.out,decide_eq_true zr.out,decide_eq_true DW];rfl);have z2:=Lib.hid (Qb HB z3);have ze:=Lib.hid (Qe HK z3);have u3:=Qa ze 3 rfl;have u4:=Qa ze 4 rfl;clear DW KC z3 v0 v1 v2 v3 v4 HP;go_wp2_with fail
    clear d1 d2 zl zm;go_loopw [3,39] (fun la i wr=>∃(k:Nat) (z1:Int),k<=l.length/\i= .int .i64 k/\la= .int .i64 z1/\Hid (Below w3.heap.size w3 wr/\q=Yy x3 z1 (l.drop k))) (fun la i _=>l.length-(intOf i).toNat)
    case atStart=>exact⟨0,-1,by omega,rfl,rfl,DY ⟨D6 _ _,by rw[HQ.out,Lw]⟩⟩
    case round=>
     obtain⟨k,z1,hk,rfl,rfl,HH⟩:=hrel;by_cases hlt:k<l.length
     ·have zj:=HM.out.below (Qb z2 HH.out.1);obtain⟨b,o,rfl,hb',hc⟩:=zj (by omega);obtain⟨e0,e1,e2,e3,Aj,cj,e4,zn⟩:=hc k _ (D1 hlt);have zi:=HL.out _ (Nm hlt);have HE:=DY (show q=_ from HH.out.2.trans (by rw[NO hlt,devsOk_cons]));obtain⟨wd,zo,zf,z9⟩:=DS wr (.cells #[.int .i64 l[k].id, .int .i64 l[k].tx, .int .i64 l[k].made, .int .i64 l[k].snapped, .slice Aj l[k].maps.length cj] 49);have KD:=pdevice_any l[k] Aj cj z1 wd;have KM:=DY (show∀wx,Below wd.heap.size wd wx->Calls prog 41 #[.slice Aj l[k].maps.length cj, .int .i64 x3] wx fun e w'=>∃r:Int,e= .returned (.int .i64 r)/\decide (r=0)=XK x3 (-1) l[k].maps/\Below wx.heap.size wx w' from fun wx hbx=>mapped_any Aj cj l[k].maps x3 wx zi (zq.out (by trivial)).1 (zq.out (by trivial)).2 ((zn.more (D3 z2.out.size HH.out.1.size)|>.ext zf).ext hbx))
      have zs:=DY (Qb HH.out.1 zf);have zu:=DY z9;obtain⟨g0,g1,g2,g3,g4⟩:=DX z9;unfold devV at KD;clear hc hb' zi zn zf z9 zj;generalize XK x3 (-1) l[k].maps=bm at*;generalize devB l[k]=bd at*;generalize l[k].id=y0 at*;generalize l[k].tx=y1 at*;generalize l[k].made=y2 at*;generalize l[k].snapped=y3 at*;generalize l[k].maps.length=y4 at*;go_upto_region 9 with fail
      rw[show wr.alloc (.cells #[.int .i64 y0, .int .i64 y1, .int .i64 y2, .int .i64 y3, .slice Aj y4 cj] 49)=wd from zo.symm]
      clear zo e0 e1 e2 e3 e4;go_wp2_with fail
      refine KD.mono ?_;rintro e w4 ⟨r,rfl,hr,z4⟩;have zg:=DY (Qb zs z4);have HBX:=DY z4;have zd:=KM.out w4 z4;have z0:=Qe zu z4;have HKD4:=DY z0;have j0:=Qa z0 0 rfl;have j4:=Qa z0 4 rfl;have zh:=Qa (Qe (ze.out) (zg.out)) 3 rfl;clear KD z4 g0 g1 g2 g3 g4 z0 KM;by_cases hr0:r=0
      case neg=>
       have HF:=DY (show q=false by rw[HE.out,<-hr,decide_eq_false hr0];rfl);have d1:(r !=0)=true:=by rw[bne_iff_ne];exact hr0
       have HR:=DY hr0;clear hr hr0 zd j0 j4 zh;go_wp2;go_ret;exact⟨r,rfl,by rw[HF.out,decide_eq_false HR.out],Qb z2.out zg.out⟩
      subst hr0;have z8:=DY (show q=(bm&&Yy x3 y0 (l.drop (k+1))) by rw[HE.out,<-hr];rfl)
      clear hr HE;go_wp2_with fail
      refine zd.mono ?_;rintro e w5 ⟨r2,rfl,z6,z7⟩;have zk:=DY (Qb zg z7);have j0':=Qg z7 j0;clear zd z7 j0 j4 zh;by_cases hr0:r2=0
      case neg=>
       have HF:=DY (show q=false by rw[z8.out,<-z6,decide_eq_false hr0];rfl);have d1:(r2 !=0)=true:=by rw[bne_iff_ne];exact hr0
       have HR:=DY hr0;clear z6 hr0 j0';go_wp2;go_ret;exact⟨r2,rfl,by rw[HF.out,decide_eq_false HR.out],Qb z2.out zk.out⟩
      subst hr0;have zt:=DY (show q=Yy x3 y0 (l.drop (k+1)) by rw[z8.out,<-z6];rfl);clear z6 z8;go_wp2;go_roundw
      case rel=>exact⟨k+1,y0,by omega,by go_num,rfl,DY ⟨zk.out,zt.out⟩⟩
      case measure=>simp[intOf];omega
     ·obtain rfl:k=l.length:=by omega
      go_wp2;go_ret;exact⟨0,rfl,by rw[HH.out.2,LD];rfl,Qb z2 HH.out.1⟩
section
open Go.RowKit Go.Shelf
attribute [local go_sem] Oper.semAt_some
def KpB(n₀ b:Nat)(W W':World):Prop:=Below n₀ W W'/\W'.heap[b]?=W.heap[b]?
theorem KpB.refl(n₀ b:Nat)(W:World):KpB n₀ b W W:=⟨D6 _ _,rfl⟩
theorem KpB.trans{n₀ b:Nat}{A B C:World}(h:KpB n₀ b A B)(k:KpB n₀ b B C):KpB n₀ b A C:=⟨h.1.trans k.1,k.2.trans h.2⟩
theorem KpB.turn{n₀ b:Nat}{w:World}(hn:n₀<=w.heap.size)(hb:b<w.heap.size)(W:World)(l:Nat)(o o':Obj)(hl:w.heap.size<=l)(h:W.heap[l]?=some o)(h1:o.isCells=false)(h2:o.isWalk=false):KpB n₀ b W (W.putObj l o'):=
 ⟨belowK_b hn W l o o' hl h h1 h2,World.putObj_heap_other (by omega)⟩
theorem KpB.of_below{n₀ b:Nat}{A B:World}(h:Below A.heap.size A B)(hn:n₀<=A.heap.size)(hb:b<A.heap.size):KpB n₀ b A B:=⟨h.mono hn,h.block b hb⟩
def O9(i:Nat)(l:List ZO):List (Nat×ZO):=l.map fun m=>(i,m)
def mTo(devs:List Q4):Nat->List (Nat×ZO)
 |0=>[]
 |k+1=>mTo devs k++O9 k ((devs[k]?.map Q4.maps).getD [])
theorem Gb{devs:List Q4}{k:Nat}(h:k<devs.length):mTo devs (k+1)=mTo devs k++O9 k devs[k].maps:=by
 conv=>lhs;unfold mTo
 rw[D1 h]
 rfl
theorem mTo_len(devs:List Q4):∀k,k<=devs.length->(mTo devs k).length=Uh devs k
 |0,_=>rfl
 |k+1,h=>by
  rw[Gb (by omega),Od devs k (by omega),D7,mTo_len devs k (by omega)];simp[O9]
theorem mOne_take(i:Nat)(l:List ZO)(j:Nat)(h:j<l.length):O9 i (l.take (j+1))=O9 i (l.take j)++[(i,l[j])]:=by
 unfold O9;rw[Nl h,Ns]
 rfl
theorem XE.two{n₀:Nat}{W A B:World}{ad:Option Addr}{l:List ZO}(h1:Below n₀ W A)(h2:Below n₀ W B)(h:XE A n₀ ad l):XE B n₀ ad l:=fun hn=>by
 obtain⟨b,o,e,hb,hc⟩:=h hn;have hx:∀(p:Addr),p.block<n₀->B.cell? p=A.cell? p:=fun p hp=>(h2.cell hp).trans (h1.cell hp).symm
 refine⟨b,o,e,hb,fun j x hj=>?_⟩
 obtain⟨a1,a2,a3⟩:=hc j x hj;exact⟨(hx ⟨b,o+j*3,none⟩ hb).trans a1,(hx ⟨b,o+j*3+1,none⟩ hb).trans a2,(hx ⟨b,o+j*3+2,none⟩ hb).trans a3⟩
theorem pmaps1_in(n:Nat)(hn:1<=n)(lp bp n₀:Nat)(p:Xe)(A:Option Addr)(c:Nat)(hm:p.devs.length<=1000000000)(hl:∀d∈p.devs,d.maps.length<=1000000000)(J Jx:List (Nat×ZO)->World->Prop)
  (hY:∀pre x W,J pre W->pre.length<ZL p->YieldAt Fence.wide (n-1) prog lp #[.int .i64 (x.1:Nat), .agg #[.int .i64 x.2.v, .int .i64 x.2.b, .int .i64 x.2.t]] W fun e W'=>
   (e= .returned (.bool true)/\J (pre++[x]) W'/\KpB n₀ bp W W')∨(e= .returned (.bool false)/\Jx (pre++[x]) W'))
  (hJ:∀s A B,Below A.heap.size A B->J s A->J s B)
  (W:World) (za:n₀<=W.heap.size) (z5:W.heap[bp]?=some (.cells #[.int .i64 p.tx, .int .i64 p.time, .int .i64 p.unit_, .int .i64 p.data, .slice A p.devs.length c] 28)) (hD:X5 W n₀ A p.devs) (h0:J [] W):
  CallsIn Fence.wide n prog 99 #[.func (.yield lp) #[] #[], .pointer (some ⟨bp,0,none⟩)] W fun e W'=>(∃v,e= .returned v)/\
   ((∃ys,ys=mTo p.devs p.devs.length/\J ys W')∨(∃pre,True/\Jx pre W')):=by
 have HY:=DY hY;have HJ:=DY hJ;have HP:=DY (DZ z5 (DZ hD za));have HL:=DY hl;have zl:=DY (show∀k (h:k<p.devs.length) j,j<p.devs[k].maps.length->(mTo p.devs k).length+j<ZL p from fun k h j hj=>by
  rw[mTo_len _ _ (by omega)];have h1:=Od p.devs k h;have h2:=cntTo_le p.devs (k+1);unfold ZL;omega)
 have c4:=Qa z5 4 rfl;have zn:=DY h0;clear hY hJ z5 hD za hl h0;generalize p.tx=x0 at*;generalize p.time=x1 at*;generalize p.unit_=x2 at*;generalize p.data=x3 at*;refine callsIn_of_wp func99 rfl trivial ?_ rfl;simp only[ntmps99,Ny,No,List.length_nil,N9,La,NJ,NK,NR,NM,Np,NH];gi_wp2;gi_loopw [10] (fun i wr=>∃k:Nat,k<=p.devs.length/\i= .int .i64 k/\Hid (J (mTo p.devs k) wr/\KpB n₀ bp W wr/\W.heap.size<=wr.heap.size)) (fun i _=>p.devs.length-(intOf i).toNat)
 case atStart=>exact⟨0,Lb _,rfl,DY ⟨zn.out,KpB.refl _ _ _,Na _⟩⟩
 case round=>
  obtain⟨k,hk,rfl,HK⟩:=hrel;by_cases hlt:k<p.devs.length
  ·obtain⟨b,o,rfl,hb,hc⟩:=(HP.out.2.1.below HK.out.2.1.1) (by omega);obtain⟨e0,e1,e2,e3,A5,c5,e4,zd⟩:=hc k _ (D1 hlt);have hle:=HL.out _ (Nm hlt);have HM:=DY zd;have zk:=DY (zl.out k hlt);have HS:=DY (Gb hlt);clear hc zd hb;generalize p.devs[k].id=y0 at*;generalize p.devs[k].tx=y1 at*;generalize p.devs[k].made=y2 at*;generalize p.devs[k].snapped=y3 at*;generalize p.devs[k].maps=ml at*;obtain⟨wd,z9⟩:=DR (wr.alloc (.cells #[.int .i64 y0, .int .i64 y1, .int .i64 y2, .int .i64 y3, .slice A5 ml.length c5] 49));have z6:=DY (show Below wr.heap.size wr wd by rw[z9];exact Qd wr _);have i0:(0:Int)<=(k:Int):=by omega
   have i1:(k:Int)<(p.devs.length:Int):=by omega
   have HWD:=Lib.hid z9;obtain⟨vd,hvd⟩:∃vd:Value,vd= .agg #[.int .i64 y0, .int .i64 y1, .int .i64 y2, .int .i64 y3, .slice A5 ml.length c5]:=⟨_,rfl⟩;gi_wp2_with fail
   rw[<-z9];gi_loopw [18] (fun i wi=>∃j:Nat,j<=ml.length/\i= .int .i64 j/\Hid (J (mTo p.devs k++O9 k (ml.take j)) wi/\KpB n₀ bp W wi/\W.heap.size<=wi.heap.size)) (fun i _=>ml.length-(intOf i).toNat)
   case atStart=>exact⟨0,Lb _,rfl,DY ⟨by rw[Lv];simpa[O9] using HJ.out _ _ _ z6.out HK.out.1,HK.out.2.1.trans (KpB.of_below z6.out (D3 HP.out.2.2 HK.out.2.2) (Nh (D0.1 HP.out.1).1 HK.out.2.2)),D3 HK.out.2.2 z6.out.size⟩⟩
   case round=>
    obtain⟨j,hj,rfl,HI⟩:=hrel;by_cases hjt:j<ml.length
    ·obtain⟨b2,o2,rfl,zh,DU⟩:=(XE.two HK.out.2.1.1 HI.out.2.1.1 HM) (by omega);obtain⟨g0,g1,g2⟩:=DU j _ (D1 hjt);obtain⟨m0,m1,m2,z7⟩:∃m0 m1 m2,ml[j]=⟨m0,m1,m2⟩:=⟨_,_,_,rfl⟩;rw[z7] at g0 g1 g2;dsimp only at g0 g1 g2;have zm:=DY (show mTo p.devs k++O9 k (ml.take (j+1))=(mTo p.devs k++O9 k (ml.take j))++[(k,⟨m0,m1,m2⟩)] by rw[mOne_take k ml j hjt,z7,NQ]);have z4:(mTo p.devs k++O9 k (ml.take j)).length<ZL p:=by
      have:=zk.out j hjt;rw[D7];simp[O9];omega
     have z8:=DY (Qd wr (.cells #[.int .i64 m0, .int .i64 m1, .int .i64 m2] 52));have zf:=heap_alloc_new wr (.cells #[.int .i64 m0, .int .i64 m1, .int .i64 m2] 52);obtain⟨z0,z1,z2⟩:=DV zf;have zb:=HY.out _ (k,⟨m0,m1,m2⟩) (wr.alloc (.cells #[.int .i64 m0, .int .i64 m1, .int .i64 m2] 52)) (HJ.out _ _ _ z8 HI.out.1) z4;rw[<-zm.out] at zb;obtain⟨fn,tmps,assign,body,hy,hR⟩:=zb;dsimp only at hy;have zg:=DY (HI.out.2.1.trans (KpB.of_below z8 (D3 HP.out.2.2 HI.out.2.2) (Nh (D0.1 HP.out.1).1 HI.out.2.2)));have zi:=DY (D3 HI.out.2.2 z8.out.size);have j0:(0:Int)<=(j:Int):=by omega
     have j1:(j:Int)<(ml.length:Int):=by omega
     clear DU z7 z4 zf zh;gi_wp2;refine hR.mono ?_;rintro e W3 (⟨rfl,zc,ze⟩|⟨rfl,z3⟩)
     ·have HX:=DY (DZ zc ze);clear zc ze hR hy;gi_wp2;go_roundw
      case rel=>exact⟨j+1,hjt,by go_num,DY ⟨HX.out.1,zg.out.trans HX.out.2,D3 zi HX.out.2.1.size⟩⟩
      case measure=>simp[intOf];omega
     ·have HX:=DY z3;clear z3 hR hy;gi_wp2;refine bodyPost_ret (results_none rfl _ _ _) rfl ?_;exact⟨⟨_,rfl⟩, .inr ⟨_,trivial,HX.out⟩⟩
    ·obtain rfl:j=ml.length:=by omega
     have zj:=DY (show J (mTo p.devs (k+1)) wr by
      have:=HI.out.1;rw[Nw] at this;rw[HS.out];exact this)
     gi_wp2;go_roundw
     case rel=>exact⟨k+1,hlt,by go_num,DY ⟨zj.out,HI.out.2.1,HI.out.2.2⟩⟩
     case measure=>simp[intOf];omega
  ·obtain rfl:k=p.devs.length:=by omega
   gi_wp2;go_end0
   exact⟨⟨_,rfl⟩, .inl ⟨_,rfl,HK.out.1⟩⟩
end
theorem eqM_any(A:Option Addr)(c:Nat)(A2:Option Addr)(c2:Nat)(l:List ZO)(w:World)(hm:l.length<=1000000000)(h:XE w w.heap.size A l)(h2:XE w w.heap.size A2 l):
  Calls prog 80 #[.slice A l.length c, .slice A2 l.length c2] w fun e w'=>e= .returned (.bool true)/\Below w.heap.size w w':=by
 have HM:=DY (DZ h h2);clear h h2;go_enter func80,ntmps80
 go_wp2_with fail
 go_loopw [13] (fun i wr=>∃k:Nat,k<=l.length/\i= .int .i64 k/\Hid (Below w.heap.size w wr)) (fun i _=>l.length-(intOf i).toNat)
 case atStart=>exact⟨0,by omega,rfl,DY (D6 _ _)⟩
 case round=>
  obtain⟨k,hk,rfl,HB⟩:=hrel;by_cases hlt:k<l.length
  ·obtain⟨b,o,rfl,_,hc⟩:=(HM.out.1.below HB) (by omega);obtain⟨b2,o2,rfl,_,DU⟩:=(HM.out.2.below HB) (by omega);obtain⟨e0,e1,e2⟩:=hc k _ (D1 hlt);obtain⟨g0,g1,g2⟩:=DU k _ (D1 hlt);generalize l[k].v=x0 at*;generalize l[k].b=x1 at*;generalize l[k].t=x2 at*;have hlt':(k:Int)<(l.length:Int):=by omega
   have hbk:(0:Int)<=(k:Int):=by omega
   clear hc DU;go_wp2_with fail
   go_quiet (fail)
   have z0:=DY (Qs HB nq);go_wp2;go_roundw
   case rel=>exact⟨k+1,by omega,by go_num,z0⟩
   case measure=>simp[intOf];omega
  ·obtain rfl:k=l.length:=by omega
   go_wp2;go_ret;exact⟨rfl,HB.out⟩
theorem psame_any(d:Q4)(A:Option Addr)(c:Nat)(A2:Option Addr)(c2:Nat)(w:World)(hm:d.maps.length<=1000000000)(h:XE w w.heap.size A d.maps)(h2:XE w w.heap.size A2 d.maps):
  Calls prog 36 #[devV d A c,devV d A2 c2] w fun e w'=>e= .returned (.bool true)/\Below w.heap.size w w':=by
 obtain⟨w1,z1,z0,z2⟩:=DT w (.cells #[.int .i64 d.id, .int .i64 d.tx, .int .i64 d.made, .int .i64 d.snapped, .slice A d.maps.length c] 49) (.cells #[.int .i64 d.id, .int .i64 d.tx, .int .i64 d.made, .int .i64 d.snapped, .slice A2 d.maps.length c2] 49);have z4:w1.heap[w.heap.size+1]?=some (.cells #[.int .i64 d.id, .int .i64 d.tx, .int .i64 d.made, .int .i64 d.snapped, .slice A2 d.maps.length c2] 49):=by
  rw[z1,show w.heap.size+1=(w.alloc (.cells #[.int .i64 d.id, .int .i64 d.tx, .int .i64 d.made, .int .i64 d.snapped, .slice A d.maps.length c] 49)).heap.size by simp]
  exact heap_alloc_new _ _
 have K:=eqM_any A c A2 c2 d.maps w1 hm (h.ext z0) (h2.ext z0);have z5:=DY z0;obtain⟨a0,a1,a2,a3,a4⟩:=DX z2;obtain⟨b0,b1,b2,b3,b4⟩:=DX z4;unfold devV;clear z0 z2 z4 h h2 hm;generalize d.id=x0 at*;generalize d.tx=x1 at*;generalize d.made=x2 at*;generalize d.snapped=x3 at*;generalize d.maps.length=x4 at*;go_enter func36,ntmps36
 go_upto_region 1 with fail
 rw[show(w.alloc (.cells #[.int .i64 x0, .int .i64 x1, .int .i64 x2, .int .i64 x3, .slice A x4 c] 49)).alloc (.cells #[.int .i64 x0, .int .i64 x1, .int .i64 x2, .int .i64 x3, .slice A2 x4 c2] 49)=w1 from z1.symm]
 clear z1;go_wp2_with fail
 refine K.mono ?_;rintro e w2 ⟨rfl,z3⟩;have z6:=DY (Qb z5 z3);clear K z3 a0 a1 a2 a3 a4 b0 b1 b2 b3 b4;go_wp2;go_ret;exact⟨rfl,z6.out⟩
theorem eqF_any(A:Option Addr)(c:Nat)(A2:Option Addr)(c2:Nat)(l:List Q4)(w:World)(hm:l.length<=1000000000)(hl:∀d∈l,d.maps.length<=1000000000)(h:X5 w w.heap.size A l)(h2:X5 w w.heap.size A2 l):
  Calls prog 35 #[.slice A l.length c, .slice A2 l.length c2, .func (.func 36) #[] #[]] w fun e w'=>e= .returned (.bool true)/\Below w.heap.size w w':=by
 have HM:=DY (DZ h (DZ h2 hl));clear h h2 hl;go_enter func35,ntmps35
 go_wp2_with fail
 go_loopw [17] (fun i wr=>∃k:Nat,k<=l.length/\i= .int .i64 k/\Hid (Below w.heap.size w wr)) (fun i _=>l.length-(intOf i).toNat)
 case atStart=>exact⟨0,by omega,rfl,DY (D6 _ _)⟩
 case round=>
  obtain⟨k,hk,rfl,HB⟩:=hrel;by_cases hlt:k<l.length
  ·obtain⟨b,o,rfl,_,hc⟩:=(HM.out.1.below HB) (by omega);obtain⟨b2,o2,rfl,_,DU⟩:=(HM.out.2.1.below HB) (by omega);obtain⟨e0,e1,e2,e3,A5,c5,e4,z3⟩:=hc k _ (D1 hlt);obtain⟨g0,g1,g2,g3,A6,c6,g4,z7⟩:=DU k _ (D1 hlt);have z6:=HM.out.2.2 _ (Nm hlt);obtain⟨wa,z1,z0,z2⟩:=DT wr (.cells #[.int .i64 l[k].id, .int .i64 l[k].tx, .int .i64 l[k].made, .int .i64 l[k].snapped, .slice A5 l[k].maps.length c5] 49) (.cells #[.int .i64 l[k].id, .int .i64 l[k].tx, .int .i64 l[k].made, .int .i64 l[k].snapped, .slice A6 l[k].maps.length c6] 49);have z5:wa.heap[wr.heap.size+1]?=some (.cells #[.int .i64 l[k].id, .int .i64 l[k].tx, .int .i64 l[k].made, .int .i64 l[k].snapped, .slice A6 l[k].maps.length c6] 49):=by
    rw[z1,show wr.heap.size+1=(wr.alloc (.cells #[.int .i64 l[k].id, .int .i64 l[k].tx, .int .i64 l[k].made, .int .i64 l[k].snapped, .slice A5 l[k].maps.length c5] 49)).heap.size by simp]
    exact heap_alloc_new _ _
   have g0':=Qg (Qd wr (.cells #[.int .i64 l[k].id, .int .i64 l[k].tx, .int .i64 l[k].made, .int .i64 l[k].snapped, .slice A5 l[k].maps.length c5] 49)) g0;have g1':=Qg (Qd wr (.cells #[.int .i64 l[k].id, .int .i64 l[k].tx, .int .i64 l[k].made, .int .i64 l[k].snapped, .slice A5 l[k].maps.length c5] 49)) g1;have g2':=Qg (Qd wr (.cells #[.int .i64 l[k].id, .int .i64 l[k].tx, .int .i64 l[k].made, .int .i64 l[k].snapped, .slice A5 l[k].maps.length c5] 49)) g2;have g3':=Qg (Qd wr (.cells #[.int .i64 l[k].id, .int .i64 l[k].tx, .int .i64 l[k].made, .int .i64 l[k].snapped, .slice A5 l[k].maps.length c5] 49)) g3;have g4':=Qg (Qd wr (.cells #[.int .i64 l[k].id, .int .i64 l[k].tx, .int .i64 l[k].made, .int .i64 l[k].snapped, .slice A5 l[k].maps.length c5] 49)) g4;have K:=psame_any l[k] A5 c5 A6 c6 wa z6 ((z3.more HB.out.size).ext z0) ((z7.more HB.out.size).ext z0);unfold devV at K;have z8:=DY (Qb HB z0);obtain⟨a0,a1,a2,a3,a4⟩:=DX z2;obtain⟨b0,b1,b2',b3,b4⟩:=DX z5;clear hc DU z3 z7 z6 z0 z2 z5;generalize l[k].id=x0 at*;generalize l[k].tx=x1 at*;generalize l[k].made=x2 at*;generalize l[k].snapped=x3 at*;generalize l[k].maps.length=x4 at*;go_upto_region 7 with fail
   rw[show(wr.alloc (.cells #[.int .i64 x0, .int .i64 x1, .int .i64 x2, .int .i64 x3, .slice A5 x4 c5] 49)).alloc (.cells #[.int .i64 x0, .int .i64 x1, .int .i64 x2, .int .i64 x3, .slice A6 x4 c6] 49)=wa from z1.symm]
   clear z1 e0 e1 e2 e3 e4 g0 g1 g2 g3 g4 g0' g1' g2' g3' g4';go_wp2_with fail
   refine K.mono ?_;rintro e w2 ⟨rfl,z4⟩;have z9:=DY (Qb z8 z4);clear K z4 a0 a1 a2 a3 a4 b0 b1 b2' b3 b4;go_wp2;go_roundw
   case rel=>exact⟨k+1,by omega,by go_num,z9⟩
   case measure=>simp[intOf];omega
  ·obtain rfl:k=l.length:=by omega
   go_wp2;go_ret;exact⟨rfl,HB.out⟩
theorem pSame_any(p:Xe)(A:Option Addr)(c:Nat)(A2:Option Addr)(c2:Nat)(w:World)(hm:p.devs.length<=1000000000)(hl:∀d∈p.devs,d.maps.length<=1000000000)(h:X5 w w.heap.size A p.devs)(h2:X5 w w.heap.size A2 p.devs):
  Calls prog 11 #[Yc p A c,Yc p A2 c2] w fun e w'=>e= .returned (.bool true)/\Below w.heap.size w w':=by
 obtain⟨w1,z1,z0,z2⟩:=DT w (.cells #[.int .i64 p.tx, .int .i64 p.time, .int .i64 p.unit_, .int .i64 p.data, .slice A p.devs.length c] 28) (.cells #[.int .i64 p.tx, .int .i64 p.time, .int .i64 p.unit_, .int .i64 p.data, .slice A2 p.devs.length c2] 28);have z4:w1.heap[w.heap.size+1]?=some (.cells #[.int .i64 p.tx, .int .i64 p.time, .int .i64 p.unit_, .int .i64 p.data, .slice A2 p.devs.length c2] 28):=by
  rw[z1,show w.heap.size+1=(w.alloc (.cells #[.int .i64 p.tx, .int .i64 p.time, .int .i64 p.unit_, .int .i64 p.data, .slice A p.devs.length c] 28)).heap.size by simp]
  exact heap_alloc_new _ _
 have K:=eqF_any A c A2 c2 p.devs w1 hm hl (h.ext z0) (h2.ext z0);have z5:=DY z0;obtain⟨a0,a1,a2,a3,a4⟩:=DX z2;obtain⟨b0,b1,b2,b3,b4⟩:=DX z4;unfold Yc;clear z0 z2 z4 h h2 hm hl;generalize p.tx=x0 at*;generalize p.time=x1 at*;generalize p.unit_=x2 at*;generalize p.data=x3 at*;generalize p.devs.length=x4 at*;go_enter func11,ntmps11
 go_upto_region 1 with fail
 rw[show(w.alloc (.cells #[.int .i64 x0, .int .i64 x1, .int .i64 x2, .int .i64 x3, .slice A x4 c] 28)).alloc (.cells #[.int .i64 x0, .int .i64 x1, .int .i64 x2, .int .i64 x3, .slice A2 x4 c2] 28)=w1 from z1.symm]
 clear z1;go_wp2_with fail
 refine K.mono ?_;rintro e w2 ⟨rfl,z3⟩;have z6:=DY (Qb z5 z3);clear K z3 a0 a1 a2 a3 a4 b0 b1 b2 b3 b4;go_wp2;go_ret;exact⟨rfl,z6.out⟩
end Go.Proofs.YtijcgllddnpmhaaGreatDoor
