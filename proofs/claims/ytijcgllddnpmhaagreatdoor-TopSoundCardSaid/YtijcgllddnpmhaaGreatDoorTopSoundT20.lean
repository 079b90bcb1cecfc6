/- TopSound: lemmas, part 20. -/
import Derived.Test.YtijcgllddnpmhaaGreatDoorTopSoundT19
set_option maxRecDepth 100000
set_option maxHeartbeats 16000000
set_option linter.all false
namespace Go.Proofs.YtijcgllddnpmhaaGreatDoor
open Go.RowKit Go.Proofs.Tryz
section
variable {w w':World} {base g m:Nat} {tree fuel:Int} {q:WkS}
theorem Wk.pushE(h:Wk w base g m tree fuel q)(x:Qv)(X':Value)(w2:World)(ho:w2.ownsRow base 146 3 X' (q.st.ents.length+1) (ev q.st.ents++[.int .i64 x.key, .string ⟨x.val.toArray⟩, .int .i64 x.at_]))(hg:w.grownBy w2 q.E.ownBlock)(q':WkS)(hq:q'={q with E:=X',st:={q.st with ents:=q.st.ents++[x]}}):
  w2.heap[g]?=some (.cells (q.cells m tree fuel) 326)/\Wk (w2.setCell ⟨g,0,none⟩ X') base g m tree fuel q'/\WkK base w (w2.setCell ⟨g,0,none⟩ X'):=by
 subst hq;have z2:some g≠q.E.ownBlock:=Qi h.bx (by decide) h.e;have z0:w2.heap[g]?=some (.cells (q.cells m tree fuel) 326):=(hg.block g h.lt z2).trans h.bx;have z5:WkK base w w2:=WkK.own h.e (by simp) h.bs hg;have z1:=Qo w2 g 0 X';have z4:WkK base w2 (w2.setCell ⟨g,0,none⟩ X'):=WkK.grown z0 (.inl rfl) h.ge z1;have hK:=z5.trans z4;have kb:=h.b.kept hg (Zk h.b h.e (by decide));have jb:=kb.kept z1 (.inr (Qi z0 (by decide) kb).symm);have kf:=h.f.kept hg (Zk h.f h.e (by decide));have jf:=kf.kept z1 (.inr (Qi z0 (by decide) kf).symm);have ky:=h.y.kept hg (Zk h.y h.e (by decide));have jy:=ky.kept z1 (.inr (Qi z0 (by decide) ky).symm);have jo:=ho.kept z1 (.inr (Qi z0 (by decide) ho).symm);have z3:=h.ap;refine⟨z0,⟨⟨?_,(by simpa[EJ,ev] using jo),jb,jf,jy,z3,(fun v hv=>hK.err (h.fe v hv)),h.bad,h.ge⟩,hK⟩⟩;rw[heap_setCell_same w2 g 0 _ _ X' z0];simp[WkS.cells]
theorem Wk.pushBk(h:Wk w base g m tree fuel q)(x:Int)(X':Value)(w2:World)(ho:w2.ownsRow base 3 1 X' (q.nb.length+1) (iv q.nb++[.int .i64 x]))(hg:w.grownBy w2 q.Bk.ownBlock)(hl:X'.ownBlock=q.Bk.ownBlock∨X'.ownBlock=some w.heap.size)(q':WkS)(hq:q'={q with Bk:=X',nb:=q.nb++[x]}):
  w2.heap[g]?=some (.cells (q.cells m tree fuel) 326)/\Wk (w2.setCell ⟨g,1,none⟩ X') base g m tree fuel q'/\WkK base w (w2.setCell ⟨g,1,none⟩ X'):=by
 subst hq;have z2:some g≠q.Bk.ownBlock:=Qi h.bx (by decide) h.b;have z0:w2.heap[g]?=some (.cells (q.cells m tree fuel) 326):=(hg.block g h.lt z2).trans h.bx;have z6:WkK base w w2:=WkK.own h.b (by simp) h.bs hg;have z1:=Qo w2 g 1 X';have z4:WkK base w2 (w2.setCell ⟨g,1,none⟩ X'):=WkK.grown z0 (.inl rfl) h.ge z1;have hK:=z6.trans z4;have ke:=h.e.kept hg (Zk h.e h.b (by decide));have je:=ke.kept z1 (.inr (Qi z0 (by decide) ke).symm);have kf:=h.f.kept hg (Zk h.f h.b (by decide));have jf:=kf.kept z1 (.inr (Qi z0 (by decide) kf).symm);have z5:q.Wy.ownBlock=none∨q.Wy.ownBlock≠q.Bk.ownBlock:=by
  rcases h.ap with e|e
  ·rw[e];cases q.Wy.ownBlock<;>simp
  ·exact .inr (fun e2=>e e2.symm)
 have ky:=h.y.kept hg z5;have jy:=ky.kept z1 (.inr (Qi z0 (by decide) ky).symm);have jo:=ho.kept z1 (.inr (Qi z0 (by decide) ho).symm);have z3:X'.ownBlock=none∨X'.ownBlock≠q.Wy.ownBlock:=by
  rcases hl with e|e
  ·rw[e];exact h.ap
  ·right;rw[e];intro e2;have:=(h.y.lt _ e2.symm).2;omega
 refine⟨z0,⟨⟨?_,je,(by simpa[iv] using jo),jf,jy,z3,(fun v hv=>hK.err (h.fe v hv)),h.bad,h.ge⟩,hK⟩⟩;rw[heap_setCell_same w2 g 1 _ _ X' z0];simp[WkS.cells]
theorem Wk.pushF(h:Wk w base g m tree fuel q)(v:Value)(hv:Qy 40 w w.heap.size v)(X':Value)(w2:World)(ho:w2.ownsRow base 32 1 X' (q.fl.length+1) (q.fl++[v]))(hg:w.grownBy w2 q.F.ownBlock)(q':WkS)(hq:q'={q with F:=X',fl:=q.fl++[v],st:=q.st.fail}):
  w2.heap[g]?=some (.cells (q.cells m tree fuel) 326)/\Wk (w2.setCell ⟨g,4,none⟩ X') base g m tree fuel q'/\WkK base w (w2.setCell ⟨g,4,none⟩ X'):=by
 subst hq;have z2:some g≠q.F.ownBlock:=Qi h.bx (by decide) h.f;have z0:w2.heap[g]?=some (.cells (q.cells m tree fuel) 326):=(hg.block g h.lt z2).trans h.bx;have z5:WkK base w w2:=WkK.own h.f (by simp) h.bs hg;have z1:=Qo w2 g 4 X';have z4:WkK base w2 (w2.setCell ⟨g,4,none⟩ X'):=WkK.grown z0 (.inl rfl) h.ge z1;have hK:=z5.trans z4;have ke:=h.e.kept hg (Zk h.e h.f (by decide));have je:=ke.kept z1 (.inr (Qi z0 (by decide) ke).symm);have kb:=h.b.kept hg (Zk h.b h.f (by decide));have jb:=kb.kept z1 (.inr (Qi z0 (by decide) kb).symm);have ky:=h.y.kept hg (Zk h.y h.f (by decide));have jy:=ky.kept z1 (.inr (Qi z0 (by decide) ky).symm);have jo:=ho.kept z1 (.inr (Qi z0 (by decide) ho).symm);have z3:=h.ap;refine⟨z0,⟨⟨?_,je,jb,(by simpa using jo),jy,z3,(fun u hu=>by
  rcases NY.1 hu with hu|hu
  ·exact hK.err (h.fe u hu)
  ·rw[Lf.1 hu];exact hK.err hv),(by simp[WS.fail]),h.ge⟩,hK⟩⟩
 rw[heap_setCell_same w2 g 4 _ _ X' z0];simp[WkS.cells,WS.fail]
theorem Wk.pushWy(h:Wk w base g m tree fuel q)(x:Int)(X':Value)(w2:World)(ho:w2.ownsRow base 3 1 X' (q.way.length+1) (iv q.way++[.int .i64 x]))(hg:w.grownBy w2 q.Wy.ownBlock)(hl:X'.ownBlock=q.Wy.ownBlock∨X'.ownBlock=some w.heap.size)(q':WkS)(hq:q'={q with Wy:=X',way:=q.way++[x]}):
  w2.heap[g]?=some (.cells (q.cells m tree fuel) 326)/\Wk (w2.setCell ⟨g,8,none⟩ X') base g m tree fuel q'/\WkK base w (w2.setCell ⟨g,8,none⟩ X'):=by
 subst hq;have z2:some g≠q.Wy.ownBlock:=Qi h.bx (by decide) h.y;have z0:w2.heap[g]?=some (.cells (q.cells m tree fuel) 326):=(hg.block g h.lt z2).trans h.bx;have z5:WkK base w w2:=WkK.own h.y (by simp) h.bs hg;have z1:=Qo w2 g 8 X';have z4:WkK base w2 (w2.setCell ⟨g,8,none⟩ X'):=WkK.grown z0 (.inl rfl) h.ge z1;have hK:=z5.trans z4;have ke:=h.e.kept hg (Zk h.e h.y (by decide));have je:=ke.kept z1 (.inr (Qi z0 (by decide) ke).symm);have kb:=h.b.kept hg h.ap;have jb:=kb.kept z1 (.inr (Qi z0 (by decide) kb).symm);have kf:=h.f.kept hg (Zk h.f h.y (by decide));have jf:=kf.kept z1 (.inr (Qi z0 (by decide) kf).symm);have jo:=ho.kept z1 (.inr (Qi z0 (by decide) ho).symm);have z3:q.Bk.ownBlock=none∨q.Bk.ownBlock≠X'.ownBlock:=by
  rcases hl with e|e
  ·rw[e];exact h.ap
  ·right;rw[e];intro e2;have:=(h.b.lt _ e2).2;omega
 refine⟨z0,⟨⟨?_,je,jb,jf,(by simpa[iv] using jo),z3,(fun v hv=>hK.err (h.fe v hv)),h.bad,h.ge⟩,hK⟩⟩;rw[heap_setCell_same w2 g 8 _ _ X' z0];simp[WkS.cells]
theorem Wk.pop(h:Wk w base g m tree fuel q)(A:Option Addr)(c:Nat)(x:Int)(l:List Int)(hw:q.way=l++[x])(hy:q.Wy= .slice A (l.length+1) c)(q':WkS)(hq:q'={q with Wy:= .slice A l.length c,way:=l}):
  Wk (w.setCell ⟨g,8,none⟩ (.slice A l.length c)) base g m tree fuel q'/\WkK base w (w.setCell ⟨g,8,none⟩ (.slice A l.length c)):=by
 subst hq;have hg:=Qo w g 8 (.slice A l.length c);have hK:WkK base w (w.setCell ⟨g,8,none⟩ (.slice A l.length c)):=WkK.grown h.bx (.inl rfl) h.ge hg;have z3:=h.y.kept hg (.inr (Qi h.bx (by decide) h.y).symm);rw[hw,hy] at z3;have ho:(Value.slice A l.length c).ownBlock=q.Wy.ownBlock:=by rw[hy];cases A<;>rfl
 refine⟨⟨?_,h.e.kept hg (.inr (Qi h.bx (by decide) h.e).symm),h.b.kept hg (.inr (Qi h.bx (by decide) h.b).symm),h.f.kept hg (.inr (Qi h.bx (by decide) h.f).symm),?_,?_,fun v hv=>hK.err (h.fe v hv),h.bad,h.ge⟩,hK⟩
 ·rw[heap_setCell_same w g 8 _ _ _ h.bx];simp[WkS.cells]
 ·refine⟨by simp[iv],?_⟩
  rcases z3.2 with⟨hv,hz⟩|⟨g',cap,z0,hv,hb,z6,z2,z4,z5,z1⟩
  ·simp at hz
  ·injection hv with e1 e2 e3
   subst e1 e3;refine .inr ⟨g',c,z0,rfl,hb,z6,by rw[D7,Lj] at z2;exact Nat.le_of_succ_le z2,z4,z5,?_⟩
   have:z0.toList.take l.length=(z0.toList.take (l.length+1)).take l.length:=by rw[List.take_take];congr 1;omega
   simp only[List.length_append,Lj,Nat.mul_one] at z1;rw[NE,this,z1];simp[iv]
 ·show q.Bk.ownBlock=none∨q.Bk.ownBlock≠(Value.slice A l.length c).ownBlock
  rw[ho];exact h.ap
end
section
open Go.RowKit Go.Shelf
attribute [local go_sem] Oper.semAt_some
theorem bwd1_in(n:Nat)(hn:1<=n)(lp b1 n₀:Nat)(A:Option Addr)(c:Nat)(keys:List Int)(hm:keys.length<=1000)(J Jx:List Nat->World->Prop)
  (hY:∀pre x W,J pre W->pre.length<keys.length->x<keys.length->YieldAt Fence.wide (n-1) prog lp #[.int .i64 (x:Int), .int .i64 (keys.getD x 0)] W fun e W'=>
   (e= .returned (.bool true)/\J (pre++[x]) W'/\KpC n₀ b1 b1 W W')∨(e= .returned (.bool false)/\Jx (pre++[x]) W'))
  (W:World) (hb1:W.heap[b1]?=some (.cells #[.slice A keys.length c] 68)) (hr:Qh W n₀ A (iv keys)) (h0:J [] W):
  CallsIn Fence.wide n prog 266 #[.func (.yield lp) #[] #[], .pointer (some ⟨b1,0,none⟩)] W fun e W'=>(∃v,e= .returned v)/\
   ((∃ys,ys=YK keys.length 0/\J ys W')∨(∃pre,True/\Jx pre W')):=by
 refine callsIn_of_wp func266 rfl trivial ?_ rfl;simp only[ntmps266,List.size_toArray,No,NV,N9,La,NJ,NK,NR,NM,Np,NH];have c2:=Qa hb1 0 rfl;have zb:=DY hb1;have HR:=DY hr;have H0:=DY h0;clear hb1 hr h0;gi_wp2;gi_loopw [3] (fun s5 wr=>∃r:Nat,r<=keys.length/\s5= .int .i64 ((r:Int)-1)/\J (YK keys.length r) wr/\KpC n₀ b1 b1 W wr)
  (fun s5 _=>(intOf s5+1).toNat)
 case atStart=>exact⟨keys.length,Na _,by first|rfl|go_num,by simpa[YK] using H0.out,KpC.refl _ _ _ _⟩
 case round=>
  clear c2;obtain⟨r,hk,rfl,z5,z1⟩:=hrel;have z6:=Qa (z1.2.1.trans zb) 0 rfl;have HJ:=DY z5;have z8:=DY z1;clear z5;cases r with
  |zero=>
   rw[show((0:Nat):Int)-1= -1 by omega]
   clear z1;gi_wp2;go_end0
   exact⟨⟨_,rfl⟩, .inl ⟨_,rfl,HJ.out⟩⟩
  |succ j=>
   rw[show((j+1:Nat):Int)-1=(j:Int) by omega]
   obtain⟨ad,rfl,z2,z0⟩:=(HR.out.below z1.1) (by rw[QK];omega);have c3:=z0 j (.int .i64 (keys.getD j 0)) (by rw[Ub keys j (by omega)];simp[D9,D1 (show j<keys.length by omega)]);have z7:=hY (YK keys.length (j+1)) j wr HJ (by rw[Ke];omega) (by omega);have HP:=DY (Gr (n:=keys.length) (j:=j) (by omega));obtain⟨fn,tmps,assign,body,hy,hR⟩:=z7;have i0:(0:Int)<=(j:Int):=by omega
   have i1:(j:Int)<(keys.length:Int):=by omega
   have i2:(j:Int)<=1000:=by omega
   have HADB:=DY z2;clear z0 z1 z2
   try dsimp only at hy hR
   generalize keys.getD j 0=x at*;gi_wp2;refine hR.mono ?_;rintro e W3 (⟨rfl,z9,za⟩|⟨rfl,z4⟩)
   ·have z3:=z8.out.trans za;clear c3 z6;gi_wp2;go_roundw
    case rel=>exact⟨j,by omega,by first|rfl|go_num,by rw[HP.out];exact z9,z3⟩
    case measure=>simp[intOf]
   ·clear c3 z6;gi_wp2;refine bodyPost_ret (results_none rfl _ _ _) rfl ?_;exact⟨⟨_,rfl⟩, .inr ⟨_,trivial,z4⟩⟩
theorem bwd_in(n:Nat)(A:Option Addr)(m c:Nat)(w:World):
  CallsIn Fence.wide n prog 256 #[.slice A m c] w fun e w'=>e= .returned (.func (.func 266) #[] #[.pointer (some ⟨w.heap.size,0,none⟩)])/\w'=w.alloc (.cells #[.slice A m c] 68):=by
 refine callsIn_of_wp func256 rfl trivial ?_ rfl;simp only[ntmps256,List.size_toArray,No,NV,N9,La,NJ,NK,NR,NM,Np,NH];gi_wp2;go_ret;exact⟨rfl,rfl⟩
theorem bwd_stops(n:Nat)(hn:1<=n)(b1 n₀:Nat)(A:Option Addr)(c:Nat)(keys:List Int)(hm:keys.length<=1000)(w:World)(h1:b1<w.heap.size)(hn₀:n₀<=w.heap.size)
  (hb1:w.heap[b1]?=some (.cells #[.slice A keys.length c] 68)) (hr:Qh w n₀ A (iv keys)):
  SeqStopsK Fence.wide n prog 266 #[.pointer (some ⟨b1,0,none⟩)] (fun x:Un keys=>#[.int .i64 (x.1:Int), .int .i64 (keys.getD x.1 0)]) (KpC n₀ b1 b1) (fun ys=>ys.map (·.1)=YK keys.length 0)
   (fun _=>True) keys.length w:=fun lp J Jx W hW hJ _ hY h0=>by
 refine(bwd1_in n hn lp b1 n₀ A c keys hm (fun z1 W=>∃ps:List (Un keys),ps.map (·.1)=z1/\J ps W) (fun z1 W=>∃ps:List (Un keys),ps.map (·.1)=z1/\Jx ps W) ?_ W ((hW.block b1 h1).trans hb1) (hr.below (hW.mono hn₀)) ⟨[],rfl,h0⟩).mono ?_
 ·rintro _ x W1 ⟨ps,rfl,hp⟩ hl hx;rw[NN] at hl;have:=hY ps ⟨x,hx⟩ W1 hp hl;obtain⟨fn,z2,z0,z3,hy,hR⟩:=this;refine⟨fn,z2,z0,z3,hy,hR.mono ?_⟩;rintro e W3 (⟨rfl,h3,h4⟩|⟨rfl,h3⟩)
  ·exact .inl ⟨rfl,⟨_,by rw[Ns];rfl,h3⟩,h4⟩
  ·exact .inr ⟨rfl,_,by rw[Ns];rfl,h3⟩
 ·rintro e W1 ⟨hv,(⟨ys,z4,ps,rfl,hp⟩|⟨z1,-,ps,rfl,hp⟩)⟩
  ·exact⟨hv, .inl ⟨ps,z4,hp⟩⟩
  ·exact⟨hv, .inr ⟨ps,trivial,hp⟩⟩
def DP(bx d:Nat)(W:World):Prop:=∃v,Boxed W bx 32 v/\Qy d W W.heap.size v
theorem DP.own{α:Type}(bx:Nat)(d:List α->Nat):Own (fun(s:List α) W=>DP bx (d s) W):=by
 rintro s X Y row ⟨v,hv,he⟩ hg z0;refine⟨v,hv.kept hg (fun e'=>?_),(he.kept fun g cs hx=>(hg.block g (Zv hx) (fun e'=>?_)).trans hx).more hg.size⟩
 ·obtain⟨o,ho,hc⟩:=z0 bx e'.symm;rw[show X.heap[bx]?=_ from hv] at ho;cases ho;cases hc
 ·obtain⟨o,ho,hc⟩:=z0 g e'.symm;rw[hx] at ho;cases ho;cases hc
theorem Wk.turn{w:World}{base g m D:Nat}{tree fuel:Int}{q:WkS}{o o':Obj}(h:Wk w base g m tree fuel q)(hD:w.heap[D]?=some o)(ho:o.isCells=false)(hb:base<=D):Wk (w.putObj D o') base g m tree fuel q/\WkK base w (w.putObj D o'):=by
 have hg:=grownBy_putObj' w D o';have hc:∀(b:Nat) (cs:Array Value) (t:TypeId) (fz:Nat×Nat),w.heap[b]?=some (Obj.cells cs t fz)->some b≠some D:=fun b cs t fz hx e=>by
  injection e with e
  subst e;rw[hD] at hx
  injection hx with hx
  subst hx;cases ho
 have hr:∀{e s n:Nat} {v:Value} {xs:List Value},w.ownsRow base e s v n xs->v.ownBlock=none∨v.ownBlock≠some D:=fun{e s n v xs} hr=>by
  rcases hr.2 with⟨rfl,_⟩|⟨g',cap,cur,rfl,_,z0,_⟩
  ·exact .inl rfl
  ·exact .inr (hc g' _ _ _ z0)
 have hK:WkK base w (w.putObj D o'):=⟨(D6 _ _).grown hg h.bs (fun k e=>by cases e;exact hb),fun b cs t fz hx _ _ _ _=>(hg.block b (Zv hx) (hc b cs t fz hx)).trans hx⟩
 exact⟨⟨(hg.block g h.lt (hc g _ _ _ h.bx)).trans h.bx,h.e.kept hg (hr h.e),h.b.kept hg (hr h.b),h.f.kept hg (hr h.f),h.y.kept hg (hr h.y),h.ap,fun v hv=>hK.err (h.fe v hv),h.bad,h.ge⟩,hK⟩
def WkE(base:Nat)(w w':World):Prop:=
 Below base w w'/\∀(b:Nat) (cs:Array Value) (t:TypeId) (fz:Nat×Nat),w.heap[b]?=some (Obj.cells cs t fz)->t≠326->t≠32->w'.heap[b]?=some (Obj.cells cs t fz)
theorem WkE.trans{base:Nat}{a b c:World}(h:WkE base a b)(k:WkE base b c):WkE base a c:=⟨h.1.trans k.1,fun x cs t fz hx h1 h2=>k.2 x cs t fz (h.2 x cs t fz hx h1 h2) h1 h2⟩
theorem WkE.of_below{base:Nat}{w w':World}(hb:Below w.heap.size w w')(hB:base<=w.heap.size):WkE base w w':=⟨hb.mono hB,fun _ _ _ _ h _ _=>Qe h hb⟩
theorem WkE.toK{base:Nat}{w w':World}(h:WkE base w w'):WkK base w w':=⟨h.1,fun b cs t fz hx h1 _ _ h4=>h.2 b cs t fz hx h1 h4⟩
theorem WkE.grown{base:Nat}{w w':World}{r:Nat}{cs:Array Value}{t:TypeId}{fz:Nat×Nat}(hr:w.heap[r]?=some (Obj.cells cs t fz))(ht:t=326∨t=32)(hB:base<=r)(hg:w.grownBy w' (some r)):WkE base w w':=
 ⟨(D6 _ _).grown hg (Lk (LG hB (Zv hr))) (fun k hk=>by cases hk;exact hB),fun b cs' t' fz' h h1 h2=>(hg.block b (Zv h) (fun e=>by
  injection e with e
  subst e;rw[h] at hr
  injection hr with hr
  injection hr with _ e _
  subst e;rcases ht with e|e<;>exact absurd e (by assumption))).trans h⟩
theorem WkE.own{base n s:Nat}{w w':World}{v:Value}{xs:List Value}(ho:w.ownsRow base 32 s v n xs)(hB:base<=w.heap.size)(hg:w.grownBy w' v.ownBlock):WkE base w w':=by
 rcases ho.2 with⟨rfl,_⟩|⟨g,cap,cur,rfl,hb,z0,_⟩
 ·exact⟨(D6 _ _).grown hg hB (fun k hk=>by cases hk),fun b cs t fz h _ _=>(hg.block b (Zv h) (fun e=>by cases e)).trans h⟩
 ·exact WkE.grown z0 (.inr rfl) hb hg
theorem WkE.turn{base D:Nat}{w:World}{o o':Obj}(hD:w.heap[D]?=some o)(ho:o.isCells=false)(hb:base<=D)(hB:base<=w.heap.size):WkE base w (w.putObj D o'):=by
 have hg:=grownBy_putObj' w D o';refine⟨(D6 _ _).grown hg hB (fun k e=>by cases e;exact hb),fun b cs t fz hx _ _=>(hg.block b (Zv hx) (fun e=>?_)).trans hx⟩
 injection e with e
 subst e;rw[hD] at hx
 injection hx with hx
 subst hx;cases ho
end
section
open Go.RowKit Go.Shelf
attribute [local go_sem] Oper.semAt_some
theorem pmaps_any(p:Xe)(A:Option Addr)(c:Nat)(w:World):
  Calls prog 53 #[Yc p A c] w fun e w'=>e= .returned (.func (.func 99) #[] #[.pointer (some ⟨w.heap.size,0,none⟩)])/\w'=w.alloc (.cells #[.int .i64 p.tx, .int .i64 p.time, .int .i64 p.unit_, .int .i64 p.data, .slice A p.devs.length c] 28):=by
 unfold Yc;generalize p.tx=x0 at*;generalize p.time=x1 at*;generalize p.unit_=x2 at*;generalize p.data=x3 at*;go_enter func53,ntmps53
 go_wp2;go_ret;exact⟨rfl,rfl⟩
theorem pmaps_turns(n:Nat)(hn:1<=n)(bp n₀:Nat)(p:Xe)(A:Option Addr)(c:Nat)(hm:p.devs.length<=1000000000)(hl:∀d∈p.devs,d.maps.length<=1000000000)(w:World)(hn0:n₀<=w.heap.size)
  (hbp:w.heap[bp]?=some (.cells #[.int .i64 p.tx, .int .i64 p.time, .int .i64 p.unit_, .int .i64 p.data, .slice A p.devs.length c] 28)) (hD:X5 w n₀ A p.devs):
  UG (α:=Nat×ZO) n prog 99 #[.pointer (some ⟨bp,0,none⟩)] (fun x=>#[.int .i64 (x.1:Nat), .agg #[.int .i64 x.2.v, .int .i64 x.2.b, .int .i64 x.2.t]]) (KpB n₀ bp) (fun A B=>Below A.heap.size A B) (fun ys=>ys=mTo p.devs p.devs.length) (fun _=>True) (fun pre _=>pre.length<ZL p) w:=by
 intro l J Jx W hB hJ hY h0;exact pmaps1_in n hn l bp n₀ p A c hm hl J Jx hY hJ W (D3 hn0 hB.size) ((hB.block bp (D0.1 hbp).1).trans hbp) (hD.below (hB.mono hn0)) h0
theorem Y2{A B:World}(h:Below A.heap.size A B):KeepsOthers A B:=⟨h.size,fun k o hk _=>(h.block k (D0.1 hk).1).trans hk⟩
theorem mTo_maps(devs:List Q4):∀k,k<=devs.length->(mTo devs k).map Prod.snd=(devs.take k).flatMap Q4.maps
 |0,_=>by simp[mTo]
 |k+1,h=>by
  rw[Gb (by omega),Ns,mTo_maps devs k (by omega),Nl (by omega),List.flatMap_append];simp[O9,Function.comp_def]
def cntM(data:Int)(pre:List (Nat×ZO)):List Int:=pre.foldl (fun cs m=>Jd cs m.2.b) (List.replicate data.toNat 0)
theorem cntM_snoc(data:Int)(pre:List (Nat×ZO))(x:Nat×ZO):cntM data (pre++[x])=Jd (cntM data pre) x.2.b:=by simp[cntM]
theorem addL_up{l:List Int}{k:Int}{b:Int}(h:∀x∈l,0<=x/\x<=b):∀x∈Jd l k,0<=x/\x<=b+1:=by
 intro x hx;unfold Jd at hx
 split at hx
 ·rename_i h0
  unfold OT at h0
  split at h0
  ·exact absurd h0 (by decide)
  ·rename_i h1
   rcases List.mem_or_eq_of_mem_set hx with h2|rfl
   ·have:=h x h2;omega
   ·have hk:k.toNat<l.length:=by omega
    have:=h _ (Nm hk);rw[D9,D1 hk]
    show 0<=l[k.toNat]+1/\l[k.toNat]+1<=b+1
    omega
 ·have:=h x hx;omega
theorem foldM_up(pre:List (Nat×ZO)):∀(l:List Int) (b:Int),(∀x∈l,0<=x/\x<=b)->∀x∈pre.foldl (fun cs m=>Jd cs m.2.b) l,0<=x/\x<=b+pre.length:=by
 induction pre with
 |nil=>intro l b h x hx;have:=h x hx;simp;omega
 |cons y r ih=>
  intro l b h x hx;have:=ih _ _ (addL_up h (k:=y.2.b)) x hx;simp;omega
theorem cntM_up(data:Int)(pre:List (Nat×ZO)):∀x∈cntM data pre,0<=x/\x<=pre.length:=by
 intro x hx;have:=foldM_up pre (List.replicate data.toNat 0) 0 (by intro x hx;rw[List.mem_replicate] at hx;omega) x hx;omega
theorem cntM_all{p:Xe}(h:Xx p=true):cntM p.data (mTo p.devs p.devs.length)=Yk p:=by
 unfold Yk cntM;rw[if_pos h];have:=mTo_maps p.devs p.devs.length (Na _);rw[Nw] at this;rw[<-this,List.foldl_map]
theorem Cnt.turned{W:World}{B g l:Nat}{A:Option Addr}{c:Nat}{xs:List Int}{o o':Obj}(h:Cnt W B g A c xs)(hl:W.heap[l]?=some o)(ho:o.isCells=false):Cnt (W.putObj l o') B g A c xs:=by
 refine⟨?_,ownsRow_putObj h.2.1 o' hl ho,h.2.2⟩;have z0:l≠g:=fun e=>by
  subst e;have:=h.1;unfold Boxed at this;rw[hl] at this;cases this;cases ho
 exact(World.putObj_heap_other (Ne.symm z0)).trans h.1
theorem Cnt.row_ge{W:World}{B g:Nat}{A:Option Addr}{c:Nat}{xs:List Int}(h:Cnt W B g A c xs){k:Nat}(hk:(Value.slice A xs.length c).ownBlock=some k):B<=k:=by
 rcases h.2.1.2 with⟨e,_⟩|⟨g',cap,cur,e,hb,_⟩
 ·injection e with e1 e2 e3
  subst e1;simp[Value.ownBlock] at hk
 ·injection e with e1 e2 e3
  subst e1;simp[Value.ownBlock] at hk;omega
theorem Cnt.row_cells{W:World}{B g:Nat}{A:Option Addr}{c:Nat}{xs:List Int}(h:Cnt W B g A c xs){k:Nat}{o:Obj}(hk:(Value.slice A xs.length c).ownBlock=some k)(ho:W.heap[k]?=some o):o.isCells=true:=by
 rcases h.2.1.2 with⟨e,_⟩|⟨g',cap,cur,e,hb,hg,_⟩
 ·injection e with e1 e2 e3
  subst e1;simp[Value.ownBlock] at hk
 ·injection e with e1 e2 e3
  subst e1;simp[Value.ownBlock] at hk;subst hk;rw[hg] at ho;cases ho
  rfl
theorem O7(p:Xe)(A:Option Addr)(c:Nat)(w:World)(hm:p.devs.length<=1000000000)(hs:ZL p<=1000000000000000000)(hl:∀d∈p.devs,d.maps.length<=1000000000)(h:X5 w w.heap.size A p.devs):
  Calls prog 31 #[Yc p A c] w (XQ 3 (iv (Yk p)) w):=by
 refine callsIn_wide (n:=5).1 ?_;obtain⟨wa,zo,zf,zj⟩:=DS w (.cells #[.int .i64 p.tx, .int .i64 p.time, .int .i64 p.unit_, .int .i64 p.data, .slice A p.devs.length c] 28);have KC:=U6 p A c wa hm hs hl (h.ext zf);have KM:=pmaps_any p A c;have KT:=DY (fun bp W hn hb hD=>pmaps_turns 4 (by omega) bp w.heap.size p A c hm hl W hn hb hD);have zd:=DY (@cntM_all p);have zp:=DY (show Xx p≠true->Yk p=[] from fun hn=>by unfold Yk;rw[if_neg hn]);have zv:=DY (show Xx p=true->0<=p.data/\p.data<=65536 from fun hp=>by
  unfold Xx inI at hp;simp only[Nu,decide_eq_true_iff] at hp;omega)
 have HM:=DY h;have HB:=DY zf;have HN:=DY hs;clear zf h hl hs;unfold Yc at*;generalize p.tx=x0 at*;generalize p.time=x1 at*;generalize p.unit_=x2 at*;generalize p.data=x3 at*;obtain⟨c0,c1,c2,c3,c4⟩:=DX zj;refine callsIn_of_wp_marks func31 rfl trivial ?_ rfl;simp only[ntmps31,Ny,No,List.length_nil,N9,La,NJ,NK,NR,NM,Np,NH];refine wpIn_wide.2 ?_;go_wp2_with fail
 rw[show w.alloc (.cells #[.int .i64 x0, .int .i64 x1, .int .i64 x2, .int .i64 x3, .slice A p.devs.length c] 28)=wa from zo.symm]
 refine KC.mono ?_;rintro e w2 ⟨r,rfl,hr,za⟩;have ze:=DY (Qb HB za);have k2:=Qe zj za;obtain⟨c0,c1,c2,c3,c4⟩:=DX k2;by_cases hok:Xx p=true
 ·have z7:r=0:=by rw[hok] at hr;simpa using hr
  subst z7;have zr:=DY hok;obtain⟨zt,hx1⟩:=zv.out hok;obtain⟨d,rfl⟩:∃d:Nat,x3=(d:Int):=⟨x3.toNat,by omega⟩
  have KN:=cnew_ok d (by omega);clear hok hr zt;go_wp2_with fail
  refine(KN w2).mono ?_;rintro e w3 ⟨g,A3,c3',rfl,z5,zc⟩;have zi:=DY (Qb ze zc);have k3:=Qe k2 zc;have zx:=DY z5;clear z5;obtain⟨c0,c1,c2,c3,c4⟩:=DX k3;obtain⟨w4,z3,z9,-⟩:=DS w3 (.cells #[.pointer (some ⟨g,0,none⟩)] 158);have k4:=Qe k3 z9;obtain⟨c0',c1',c2',c3',c4'⟩:=DX k4;have kx:w4.heap[w3.heap.size]?=some (.cells #[.pointer (some ⟨g,0,none⟩)] 158):=by rw[z3];exact heap_alloc_new w3 _
  have zC:=DY (zx.out.below z9);have zF:=DY (Qb zi z9);rw[z3] at c0' c1' c2' c3' c4';go_wp2_with fail
  rw[<-z3];refine(KM w4).mono ?_;rintro e w5 ⟨rfl,z8⟩;have z6:Below w4.heap.size w4 w5:=by rw[z8];exact Qd w4 _
  have zb:=DY (Qb zF z6);have k5:w5.heap[w4.heap.size]?=some (.cells #[.int .i64 x0, .int .i64 x1, .int .i64 x2, .int .i64 (d:Int), .slice A p.devs.length c] 28):=by rw[z8];exact heap_alloc_new w4 _
  have zB:=DY (zC.out.below z6);have zu:=Qe kx z6;have zg:w4.heap.size<w5.heap.size:=by rw[z8];simp
  have hlt3:w3.heap.size<w4.heap.size:=by rw[z3];simp
  have hsz3:w.heap.size<=w3.heap.size:=zi.out.size;clear z3 z8 c0' c1' c2' c3' c4' c0 c1 c2 c3 c4 z9 z6 za zc zo;go_wp2_with fail
  refine(wpIn_wide (n:=5)).1 ?_;have hbpc:w.heap.size<=w4.heap.size:=by omega
  refine Yi (by decide) (gf:=99) (lb:=#[.pointer (some ⟨w4.heap.size,0,none⟩)]) rfl (enters_of func99 (by kernel_rfl) rfl)
   (KT.out w4.heap.size w5 (by omega) k5 (HM.out.below zb)) (fun _ _ _=>KpB.trans) (KpB.turn (by omega) zg) (D6 _ _) (fun _=>rfl)
   (fun _ _=>Y2)
   (fun z0 W=>W.heap[w3.heap.size]?=some (.cells #[.pointer (some ⟨g,0,none⟩)] 158)/\Cnt W w2.heap.size g A3 c3' (cntM (d:Int) z0)/\Below w.heap.size w W/\W.heap[w4.heap.size]?=some (.cells #[.int .i64 x0, .int .i64 x1, .int .i64 x2, .int .i64 (d:Int), .slice A p.devs.length c] 28))
   (fun _ _ _=>False) ?bears ?wr ?al (fun _ _ _ _ _ _ _ _ _ h=>h)
   ⟨zu,by simpa[cntM] using zB.out,zb.out,k5⟩
   (fun x b W=>∃m,b={tmps:=#[.agg #[.int .i64 x0, .int .i64 x1, .int .i64 x2, .int .i64 (d:Int), .slice A p.devs.length c], .pointer (some ⟨w.heap.size,0,none⟩), .slice none 0 0, .pointer (some ⟨w3.heap.size,0,none⟩), .int .i64 0,undef, .pointer (some ⟨m,0,none⟩), .agg #[.int .i64 x0, .int .i64 x1, .int .i64 x2, .int .i64 (d:Int), .slice A p.devs.length c], .int .i64 0, .bool false, .tuple #[.pointer (some ⟨g,0,none⟩), .int .i64 0], .pointer (some ⟨w.heap.size,3,none⟩), .int .i64 (d:Int), .tuple #[.pointer (some ⟨g,0,none⟩), .int .i64 0], .pointer (some ⟨g,0,none⟩), .int .i64 0, .agg #[.int .i64 x0, .int .i64 x1, .int .i64 x2, .int .i64 (d:Int), .slice A p.devs.length c], .func (.func 99) #[] #[.pointer (some ⟨w4.heap.size,0,none⟩)], .int .i64 (x.1:Nat), .agg #[.int .i64 x.2.v, .int .i64 x.2.b, .int .i64 x.2.t],undef,undef,undef,undef,undef,undef],defers:=[]}/\
    W.heap[m]?=some (.cells #[.int .i64 x.2.v, .int .i64 x.2.b, .int .i64 x.2.t] 52)) ?asg ?assign ?body ?done ?stop
  case bears=>
   rintro z0 W l o o' hl zE ho ⟨h1,h2,h3,h4⟩;refine⟨?_,h2.turned zE ho,h3.trans ?_,?_⟩
   ·have z2:w3.heap.size≠l:=by omega
    exact(World.putObj_heap_other z2).trans h1
   ·exact(D6 _ W).grown (grownBy_putObj' W l o') (by have:=h3.size;omega) (fun k e=>by cases e;omega)
   ·have z2:w4.heap.size≠l:=by omega
    exact(World.putObj_heap_other z2).trans h4
  case wr=>
   rintro z0 X Y hw ⟨h1,h2,h3,h4⟩;exact⟨Qe h1 hw,h2.below hw,Qb h3 hw,Qe h4 hw⟩
  case al=>
   rintro z0 X o ⟨h1,h2,h3,h4⟩;exact⟨Qe h1 (Qd X o),h2.below (Qd X o),Qb h3 (Qd X o),Qe h4 (Qd X o)⟩
  case asg=>
   rintro x b W l o o' hl ho ⟨m,rfl,z4⟩;refine⟨m,rfl,?_⟩;have z2:m≠l:=fun e=>by subst e;rw[z4] at hl;cases hl;cases ho
   exact(World.putObj_heap_other z2).trans z4
  case assign=>
   rintro l x W z0 K ⟨h1,h2,h3,h4⟩ hK;gi_wp2;exact hK _ _ ⟨W.heap.size,rfl,heap_alloc_new W _⟩ (Qd W _) (KpB.of_below (Qd W _) (by have:=h3.size;omega) (D0.1 h4).1)
  case body=>
   rintro l z0 ⟨i,⟨zA,mb,mt⟩⟩ b W ⟨h1,h2,h3,h4⟩ ⟨m,rfl,z4⟩ zs;have q0:=Qa h1 0 rfl;have m1:=Qa z4 1 rfl;have zz:=DY (DJ h2 mb (fun x hx=>by have:=cntM_up _ z0 x hx;have:=HN.out;omega));have HI:=DY (DZ h1 (DZ h2 (DZ h3 h4)));have zy:=DY (cntM_snoc (d:Int) z0 (i,⟨zA,mb,mt⟩));clear h1 h2 h3 h4 z4 zs;gi_wp2_with (refine⟨trivial,?_⟩;refine(CallsIn.inRound l (callsIn_wide.2 zz.out)).mono ?_;rintro e w6 ⟨rfl,zD,z1⟩)
   obtain⟨h1,h2,h3,h4⟩:=HI.out;have n3:=Qi h1 (by decide) h2.2.1;have n4:=Qi h4 (by decide) h2.2.1;have zk:Below w.heap.size W w6:=(D6 _ W).grown z1 h3.size (fun k e=>by have:=h2.row_ge e;have:=ze.out.size;omega);refine⟨KeepsOthers.of_grownBy z1 (fun j o e ho=>h2.row_cells e ho),⟨zk,z1.block _ (D0.1 h4).1 n4⟩,⟨(z1.block _ (D0.1 h1).1 n3).trans h1,by rw[zy.out];exact zD,h3.trans zk,(z1.block _ (D0.1 h4).1 n4).trans h4⟩⟩
  case done=>
   rintro D ys W hD rfl ⟨h1,h2,h3,h4⟩ hK;have q0:=Qa h1 0 rfl;have HL:=DY (list_any h2);have HE:=DY (zd.out zr);have HI:=DY (DZ h2 (DZ h3 hK));clear h1 h2 h3 hK;go_wp2_with fail
   refine HL.out.mono ?_;rintro e w6 ⟨A6,c6,rfl,zm,zn⟩;have zw:=DY zm;have zh:=DY zn;clear zm zn;go_wp2;obtain⟨h2,h3,hK⟩:=HI.out;have zl:=(zh.out.block D (D0.1 hK).1).trans hK;refine⟨by simp, .inl ⟨_,_,rfl,run_takeDeferred zl,?_⟩⟩
   have zq:w.heap.size<=W.heap.size:=h3.size;have hrow':=Q7 (ownsRow_putObj zw (.deferred none) zl rfl) zq;rw[HE.out] at hrow';rw[HE.out];exact⟨_,results_tmp rfl _ _ _,A6,c6,rfl,hrow',(Qb h3 zh).trans ((D6 _ w6).grown (grownBy_putObj' w6 D _) (Qb h3 zh).size (fun k e=>by cases e;have:=zb.out.size;omega))⟩
  case stop=>
   rintro D c z0 W _ _ h _;exact h.elim
 ·have z7:decide (r=0)=false:=by rw[hr];simpa using hok
  have hr1:(r==0)=false:=by rw[beq_eq_false_iff_ne];simpa using z7
  have HE:=DY (zp.out hok);clear hr hok z7;go_wp2;refine⟨_,results_tmp rfl _ _ _,?_⟩;exact⟨none,0,by rw[HE.out];rfl,by rw[HE.out];exact Nb _ _ _ _,ze.out⟩
end
end Go.Proofs.YtijcgllddnpmhaaGreatDoor
