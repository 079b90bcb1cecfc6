/- TopSound: lemmas, part 13. -/
import Derived.Test.YtijcgllddnpmhaaGreatDoorTopSoundT11
set_option maxRecDepth 100000
set_option maxHeartbeats 16000000
set_option linter.all false
namespace Go.Proofs.YtijcgllddnpmhaaGreatDoor
open Go.RowKit Go.Proofs.Tryz
section
open Go.RowKit Go.Shelf
theorem Tryz.infoInt21:(prog.info? 3).map (fun i=>(i.zero,i.size,i.bytes))=some (some (.int .i64 0),1,8):=by kernel_rfl
theorem Tryz.infoEnt:(prog.info? 146).map (fun i=>(i.zero,i.size,i.bytes))=some (some (.agg #[.int .i64 0, .string ByteArray.empty, .int .i64 0]),3,32):=by kernel_rfl
theorem Tryz.infoSi:(prog.info? 68).map (fun i=>(i.zero,i.size,i.bytes))=some (some (.slice none 0 0),1,24):=by kernel_rfl
def Z4(l:List Int)(w:World)(e:Ending)(w':World):Prop:=
 ∃A1 c1 A2 c2,e= .returned (.tuple #[.slice A1 (Y8 l).length c1, .slice A2 (VH l).length c2, .int .i64 (Yq l)])/\Z3 w' w.heap.size (.slice A1 (Y8 l).length c1) (Y8 l)/\Jz w' w'.heap.size A2 (VH l)/\Below w.heap.size w w'
theorem Z4.bad{l:List Int}(h:Yq l=2/\Y8 l=[]/\VH l=[]){w w':World}(hb:Below w.heap.size w w'):Z4 l w (.returned (.tuple #[.slice none 0 0, .slice none 0 0, .int .i64 2])) w':=by
 obtain⟨h1,h2,h3⟩:=h;refine⟨none,0,none,0,?_,?_,?_,hb⟩
 ·rw[h1,h2,h3];rfl
 ·rw[h2];exact Z3.nil _ _
 ·rw[h3];exact Jz.nil_ _ _ _
theorem iv_at{l:List Int}{k:Nat}(h:k<l.length):(iv l)[k]'(by rw[QK];exact h)= .int .i64 (l.getD k 0):=by
 simp[iv,D9,D1 h]
theorem own_capT{w:World}{B n c:Nat}{e:TypeId}{A:Option Addr}{xs:List Value}(h:w.ownsRow B e 1 (.slice A n c) n xs):n<=c:=by
 rcases h.2 with⟨hv,hz⟩|⟨g',cap,cur,hv,_,_,hnc,_⟩
 ·omega
 ·injection hv with e1 e2 e3
  omega
theorem own_geT{w:World}{base g:Nat}{e:TypeId}{v:Value}{n:Nat}{xs:List Value}(h:w.ownsRow base e 1 v n xs)(hg:v.ownBlock=some g):base<=g:=(h.lt g hg).1
theorem split_tail{W w5 w6:World}{f:Nat}{v u v':Value}{ls:List (List Int)}{ch:List Int}{vs:List Value}(hf:f+3<=W.heap.size)(hv:Boxed W f 252 v)
  (o1:W.ownsRow (f+3) 68 1 v ls.length vs) (o2:vs.length=ls.length) (o3:∀(j:Nat) l,ls[j]?=some l->∃u,vs[j]?=some u/\W.ownsRow (f+3) 3 1 u l.length (iv l))
  (hb5:Below W.heap.size W w5) (hu:w5.ownsRow W.heap.size 3 1 u ch.length (iv ch)) (O:Obj)
  (ho:w6.ownsRow (f+3) 68 1 v' (ls.length+1) (vs++[u])) (hg:(w5.alloc O).grownBy w6 v.ownBlock):
  Boxed w6 f 252 v/\KeepsOthers W (w6.setCell ⟨f,0,none⟩ v')/\KpC f (f+1) (f+2) W (w6.setCell ⟨f,0,none⟩ v')/\BoxLL f (f+3) (ls++[ch]) (w6.setCell ⟨f,0,none⟩ v')/\Below f W (w6.setCell ⟨f,0,none⟩ v'):=by
 have z1:Boxed w5 f 252 v:=Qe hv hb5;have p1:=QT o1 hb5;have hs5:=hb5.size;obtain⟨q1,q2,q3,q4,q5⟩:=z1.appended (n₀:=f) (by decide) (Q7 p1 (show f<=f+3 by omega)) (by omega) (Nat.le_refl _) (Q7 ho (show f<=f+3 by omega)) hg;have z2:Z3 w6 (f+3) v' (ls++[ch]):=Z3.snoc (p1.alloc O) o2 (fun j l hj=>by
  obtain⟨x,hx,hw⟩:=o3 j l hj;exact⟨x,hx,(QT hw hb5).alloc O⟩) ((Q7 hu hf).alloc O) ho hg
 have z0:∀b,b<W.heap.size->b≠f->b<f+3->(w6.setCell ⟨f,0,none⟩ v').heap[b]?=W.heap[b]?:=fun b hb hne hlt=>by
  refine(heap_setCell_other w6 ⟨f,0,none⟩ _ _ hne).trans ((hg.block b (by simp;omega) (fun e=>?_)).trans ((Below.heap_alloc w5 _ _ (by omega)).trans (hb5.block b hb)));have:=own_geT o1 e.symm;omega
 refine⟨q1,?_,⟨(hb5.mono (by omega)).trans q5,z0 _ (by omega) (by omega) (by omega),z0 _ (by omega) (by omega) (by omega)⟩,⟨v',q2,z2.kept (grownBy_setCell' w6 f v') (fun e he u n xs hw=> .inr (q1.not_row (by rcases he with rfl|rfl<;>decide) hw).symm)⟩,(hb5.mono (by omega)).trans q5⟩;exact(KeepsOthers.of_grownBy (row:=none) ⟨hb5.os,hb5.tape,hb5.output,hb5.size,fun i hi _=>hb5.block i hi⟩ (fun j o e=>by cases e)).trans q4
section
attribute [local go_sem] Oper.semAt_some
theorem split_in(n:Nat)(hn:3<=n)(A:Option Addr)(c:Nat)(l:List Int)(hm:l.length<=65536)(w:World)(hr:Qh w w.heap.size A (iv l)):
  CallsIn Fence.wide n prog 171 #[.slice A l.length c] w (Z4 l w):=by
 have h1:1<=n:=by omega
 obtain⟨ji,zS,zW,zO,zQ⟩:=info_parts Tryz.infoInt21;obtain⟨je,q3,q7,q1,zY⟩:=info_parts Tryz.infoEnt;obtain⟨js,zw,zx,zy,zB⟩:=info_parts Tryz.infoSi;have HR:=DY hr;have zH:decide (65536<l.length)=false:=decide_eq_false (by omega);have zR:(l.length:Int)<=65536:=by omega
 refine callsIn_of_wp_marks func171 rfl trivial ?_ rfl;simp only[ntmps171,List.size_toArray,No,NV,N9,La,Array.replicate_succ,NK,NR,NM,Np,NH];refine wpIn_wide.2 ?_;clear hr;go_wp2_with fail
 go_loopw [5,6,16] (fun s5 s6 s16 wr=>∃(k:Nat) (A5:Option Addr) (c5:Nat) (A6:Option Addr) (m c6:Nat),k<=l.length/\s5= .slice A5 k c5/\s6= .slice A6 m c6/\s16= .int .i64 k/\m<=k/\Hid (m=(UK l k).length)/\Hid (∀i,i<k->0<=l.getD i 0/\l.getD i 0<=2147483647)/\Hid (wr.ownsRow w.heap.size 3 1 (.slice A5 k c5) k (iv (Yr (l.take k))))/\Hid (wr.ownsRow w.heap.size 146 3 (.slice A6 m c6) m (ev (UK l k)))/\Hid (Below w.heap.size w wr)) (fun _ _ s16 _=>l.length-(intOf s16).toNat)
 case atStart=>exact⟨0,none,0,none,0,0,by omega,rfl,rfl,rfl,by omega,DY rfl,DY (fun i h=>by omega),DY (Nb _ _ _ _),DY (Nb _ _ _ _),DY (D6 _ _)⟩
 case round=>
  obtain⟨k,A5,c5,A6,m,c6,hk,rfl,rfl,rfl,hmk,HM,zC,z4,zg,HB⟩:=hrel;by_cases zf:k<l.length
  ·have hci:(k:Int)<(l.length:Int):=by omega
   obtain⟨ad,rfl,-,hc⟩:=(HR.out.below HB).at_ (k:=k) (by rw[QK];exact zf);rw[iv_at zf] at hc;have z8:=DY (fun h=>splitE_bad (c:=l) zf h);have HS:=DY (smalls_next l zf);have HV:=DY (show UK l (k+1)=if 3<=l.getD k 0 then UK l k++[⟨k,GT (l.getD k 0),0⟩] else UK l k from rfl);have zb:=DY (fun(h:0<=l.getD k 0/\l.getD k 0<=2147483647) (i:Nat) (hi:i<k+1)=>(show 0<=l.getD i 0/\l.getD i 0<=2147483647 from by
    rcases NC i k with h2|h2
    ·exact zC i h2
    ·obtain rfl:i=k:=by omega
     exact h))
   generalize l.getD k 0=x at*;by_cases hx0:x<0
   ·have HE:=Lib.hid (z8.out (.inl hx0));clear z8 HS HV zb zR hm;go_wp2;refine⟨_,results_tmp3 rfl _ _ _,?_⟩;exact Z4.bad HE HB
   by_cases hxm:2147483647<x
   ·have HE:=Lib.hid (z8.out (.inr hxm));have d0:decide (x<0)=false:=decide_eq_false hx0;clear z8 HS HV zb zR hm hx0;go_wp2;refine⟨_,results_tmp3 rfl _ _ _,?_⟩;exact Z4.bad HE HB
   have d0:decide (x<0)=false:=decide_eq_false hx0;have d1:decide (2147483647<x)=false:=decide_eq_false hxm;have zo:=DY (zb.out ⟨by omega,by omega⟩);clear z8 zb zC;by_cases h3:3<=x
   ·have zq:Ea x=3:=by unfold Ea;rw[if_neg (by omega)]
    have d2:¬x<3:=by omega
    have zs:=Lib.hid (show UK l (k+1)=UK l k++[⟨k,GT x,0⟩] from by rw[HV.out,if_pos h3]);have KC:=Lib.hid (fun(V:World)=>(show Calls prog 224 #[.int .i64 x] V fun e w'=>e= .returned (.string ⟨(GT x).toArray⟩)/\Below V.heap.size V w' from vcount_any x V (by simp[Lit.wf,IntKind.min,IntKind.max,IntKind.bits,IntKind.signed];omega)))
    rw[zq] at HS;have zh:=z4.out.alloc (.cells #[.int .i64 3] 3);have zd:w.heap.size<=(wr.alloc (.cells #[.int .i64 3] 3)).heap.size:=by have:=HB.out.size;simp;omega
    clear HV zq hx0 hxm;have dm:(if 3<x then(3:Int) else x)=3:=by split<;>omega
    go_upto_region 10 with fail
    go_wp2_with (at_builtin;refine QE _ rfl (.tmp 27) (.tmp 30) _ rfl w.heap.size 3 ji _ 8 underlying68 zS zW zO zQ rfl _ k (iv (Yr (l.take k))) rfl zh _ _ 1 1 [.int .i64 3] rfl rfl (Qh.new wr [.int .i64 3] 3 (0,0)) (by simp[Value.oneCell']) (by simp only[maxLen];omega) (by omega) zd ?_;intro A7 c7 w7 z3 zn zm _;have zp:=Lib.hid ((HB.out.trans ((Qd wr (.cells #[.int .i64 3] 3)).mono HB.out.size)).trans zm);have zD:=DY z3;have zc:=DY ((zg.out.alloc (.cells #[.int .i64 3] 3)).kept zn (Zk (zg.out.alloc (.cells #[.int .i64 3] 3)) zh (by decide)));clear zm zn z3 zh zd z4 zg HB hc)
    refine(KC.out _).mono ?_;rintro e w8 ⟨rfl,zv⟩;have zA:=zp.out.trans (zv.mono zp.out.size);have zr:=(QT zD zv).alloc (.cells #[.int .i64 k, .string ⟨(GT x).toArray⟩, .int .i64 0] 146);have zK:=(Qk zc zv).alloc (.cells #[.int .i64 k, .string ⟨(GT x).toArray⟩, .int .i64 0] 146);have zd:w.heap.size<=(w8.alloc (.cells #[.int .i64 k, .string ⟨(GT x).toArray⟩, .int .i64 0] 146)).heap.size:=by have:=zA.size;simp;omega
    have zl:=Lib.hid (zA.trans ((Qd w8 (.cells #[.int .i64 k, .string ⟨(GT x).toArray⟩, .int .i64 0] 146)).mono zA.size));have zi:=Lib.hid zr;clear zA zr zv zp zD zc KC dm;go_wp2_with (at_builtin;refine Qq _ rfl (.tmp 34) (.tmp 39) _ rfl w.heap.size 3 146 je _ 32 underlying137 q3 q7 q1 zY rfl (by decide) _ m (ev (UK l k)) rfl zK _ _ 1 1 [.int .i64 k, .string ⟨(GT x).toArray⟩, .int .i64 0] rfl rfl (Qh.new w8 [.int .i64 k, .string ⟨(GT x).toArray⟩, .int .i64 0] 146 (0,0)) (by simp[Value.oneCell']) (by simp only[maxLen];omega) (by omega) zd ?_;intro A9 c9 w9 ze zU zP _;have q5:=DY (zl.out.trans zP);have q2:Hid (w9.ownsRow w.heap.size 146 3 (.slice A9 (m+1) c9) (m+1) (ev (UK l (k+1)))):=(by rw[zs.out,EJ];exact Lib.hid ze);have zG:Hid (w9.ownsRow w.heap.size 3 1 (.slice A7 (k+1) c7) (k+1) (iv (Yr (l.take (k+1))))):=(by rw[HS.out,Xb];exact Lib.hid (zi.out.kept zU (Zk zi.out zK (by decide))));clear zP zU ze zK zd zi zl)
    go_roundw
    case rel=>exact⟨k+1,A7,c7,A9,m+1,c9,by omega,rfl,rfl,by go_num,by omega,DY (by rw[zs.out,D7,<-HM.out];rfl),zo,zG,q2,q5⟩
    case measure=>simp[intOf];omega
   ·have zq:Ea x=x:=by unfold Ea;rw[if_pos (by omega)]
    have zs:=Lib.hid (show UK l (k+1)=UK l k from by rw[HV.out,if_neg h3]);rw[zq] at HS;have zh:=z4.out.alloc (.cells #[.int .i64 x] 3);have zd:w.heap.size<=(wr.alloc (.cells #[.int .i64 x] 3)).heap.size:=by have:=HB.out.size;simp;omega
    have dm:(if 3<x then(3:Int) else x)=x:=by split<;>omega
    have d3:decide (3<=x)=false:=decide_eq_false h3;clear HV zq hx0 hxm h3;go_upto_region 10 with fail
    go_wp2_with (at_builtin;refine QE _ rfl (.tmp 27) (.tmp 30) _ rfl w.heap.size 3 ji _ 8 underlying68 zS zW zO zQ rfl _ k (iv (Yr (l.take k))) rfl zh _ _ 1 1 [.int .i64 x] rfl rfl (Qh.new wr [.int .i64 x] 3 (0,0)) (by simp[Value.oneCell']) (by simp only[maxLen];omega) (by omega) zd ?_;intro A7 c7 w7 z3 zn zm _;have zp:=Lib.hid ((HB.out.trans ((Qd wr (.cells #[.int .i64 x] 3)).mono HB.out.size)).trans zm);have zD:Hid (w7.ownsRow w.heap.size 3 1 (.slice A7 (k+1) c7) (k+1) (iv (Yr (l.take (k+1))))):=(by rw[HS.out,Xb];exact DY z3);have zc:Hid (w7.ownsRow w.heap.size 146 3 (.slice A6 m c6) m (ev (UK l (k+1)))):=(by rw[zs.out];exact DY ((zg.out.alloc (.cells #[.int .i64 x] 3)).kept zn (Zk (zg.out.alloc (.cells #[.int .i64 x] 3)) zh (by decide))));clear zm zn z3 zh zd z4 zg HB hc)
    go_roundw
    case rel=>exact⟨k+1,A7,c7,A6,m,c6,by omega,rfl,rfl,by go_num,by omega,DY (by rw[zs.out,<-HM.out]),zo,zD,zc,zp⟩
    case measure=>simp[intOf];omega
  ·obtain rfl:k=l.length:=by omega
   have HE:=DY (splitE_ok zC);rw[Nw] at z4;have zJ:=smalls_len l;obtain⟨s,hs⟩:=DR (Yr l);rw[<-hs] at z4 HE zJ;have zt:=DY zJ;clear zf hk zC hs zJ zH;go_upto_region 15 with fail
   go_wp2_with (refine(callsIn_wide.1 (chunk_in 3 _ _ _ _)).mono ?_;rintro e w' ⟨rfl,rfl⟩)
   refine(wpIn_wide (n:=n)).1 ?_;obtain⟨ad,hA⟩:∃ad,0<s.length->A5=some ad:=by
    cases A5 with
    |none=>exact⟨⟨0,0,none⟩,fun h=>by obtain⟨g,e,_⟩:=Z9 z4 (by rw[<-zt.out];exact h);cases e⟩
    |some a=>exact⟨a,fun _=>rfl⟩
   have zL:=own_capT z4;obtain⟨w1,zj⟩:∃w1,w1=(((wr.alloc (.cells #[.slice none 0 0] 252)).alloc (.cells #[.slice A5 l.length c5] 68)).alloc (.cells #[.int .i64 960] 3)):=⟨_,rfl⟩;have hsz:w1.heap.size=wr.heap.size+3:=by rw[zj];simp
   have zM:Below wr.heap.size wr w1:=by
    rw[zj];exact(((D6 _ wr).alloc (Na _) _).alloc (by simp) _).alloc (by simp;omega) _
   have bS:Boxed w1 wr.heap.size 252 (.slice none 0 0):=by rw[zj];exact((Boxed.new wr _ _).alloc _).alloc _
   have bX:w1.heap[wr.heap.size+1]?=some (.cells #[.slice A5 s.length c5] 68):=by
    rw[zj,zt.out];have:=heap_alloc_new (wr.alloc (.cells #[.slice none 0 0] 252)) (.cells #[.slice A5 l.length c5] 68);rw[Nr] at this;exact Qj this _
   have bN:w1.heap[wr.heap.size+2]?=some (.cells #[.int .i64 960] 3):=by
    rw[zj];have:=heap_alloc_new ((wr.alloc (.cells #[.slice none 0 0] 252)).alloc (.cells #[.slice A5 l.length c5] 68)) (.cells #[.int .i64 960] 3);rw[Nr,Nr] at this;exact this
   rw[<-zj];clear zj;have q0:s.length<=65536:=by rw[zt.out];exact hm
   refine wpIn_rangeFunc_ownG rfl h1 (gf:=251) (lb:=#[.pointer (some ⟨wr.heap.size+1,0,none⟩), .pointer (some ⟨wr.heap.size+2,0,none⟩)]) rfl trivial (enters_of func251 (by kernel_rfl) rfl)
    (chunk_stops (n-1) (by omega) (wr.heap.size+1) (wr.heap.size+2) wr.heap.size ad A5 c5 s hA q0 (by rw[zt.out];exact zL) w1 (by omega) (by omega) bX bN) KpC.trans (KpC.turn (by omega) (by omega) (by omega)) (D6 _ _) (fun _=>rfl)
    (fun z7 W=>BoxLL wr.heap.size (wr.heap.size+3) (z7.map fun x=>ZR s x.1) W/\Below wr.heap.size w1 W)
    (fun _ _ _=>False)
    (OwnFrom.and ((BoxLL.own wr.heap.size (wr.heap.size+3) (fun z7:List (CSpot s)=>z7.map fun x=>ZR s x.1)).from _) (ownFrom_below (by omega) (by omega)))
    (fun _ _ _ _ _ hs _ _=>hs)
    ⟨⟨_,bS,Z3.nil _ _⟩,D6 _ _⟩
    (fun x=>{tmps:=#[.slice A l.length c,undef,u2,u3,u4, .slice A5 l.length c5, .slice A6 m c6,u7,u8, .pointer (some ⟨wr.heap.size,0,none⟩),Kg ad s x.1, .slice A l.length c, .int .i64 (l.length:Int), .bool (decide ((65536:Int)<(l.length:Int))), .slice A l.length c, .int .i64 (l.length:Int), .int .i64 (l.length:Int), .bool false,u18,u19,u20,u21,u22,u23,u24,u25,u26,u27,u28,u29,u30,u31,u32,u33,u34,u35,u36,u37,u38,u39,u40,u41, .slice A5 l.length c5, .func (.func 251) #[] #[.pointer (some ⟨wr.heap.size+1,0,none⟩), .pointer (some ⟨wr.heap.size+2,0,none⟩)],Kg ad s x.1,undef,undef,undef,undef,undef,undef,undef],defers:=[]}) ?assign ?body ?done ?stop
   case assign=>
    intro lp x W K hK;gi_wp2;exact hK
   case body=>
    rintro lp z7 ⟨x,hx⟩ W ⟨⟨v,hv,vs,o1,o2,o3⟩,hB⟩ zf;have hWs:=hB.size;have hxs:=parts_at hx;have zT:=hA (by omega);have q8:=zt.out;have zV:Qh W wr.heap.size (some (ad.add (960*x))) (iv (ZR s x)):=by
     have h1:=(Qh.of_own z4).below (zM.trans hB);rw[zT] at h1;have h2:=h1.drop (k:=960*x) (cap:=c5) (by rw[QK];omega);rw[if_neg (by omega),iv_drop] at h2;have h3:=h2.take 960;rw[iv_take] at h3;exact h3
    have zX:(ZR s x).length<=960:=by rw[Gy];omega
    have zE:=Lib.hid (Jv (some (ad.add (960*x))) (ZR s x).length (ZR s x) W.drew wr.heap.size (by show wr.heap.size<=W.heap.size;omega) (by simp only[reachBytes];omega) zV);rw[NN] at o1 o2;have zz:=Lib.hid (fun(w5:World) (z5:Below W.drew.heap.size W.drew w5) (O:Obj)=>(QT (w:=W.drew) o1 z5).alloc O);have zu:=Lib.hid (fun(w5 w6:World) (O:Obj) (u v':Value) (z5:Below W.drew.heap.size W.drew w5) (hu:w5.ownsRow W.drew.heap.size 3 1 u (ZR s x).length (iv (ZR s x))) (ho:w6.ownsRow (wr.heap.size+3) 68 1 v' (z7.length+1) (vs++[u])) (hg:(w5.alloc O).grownBy w6 v.ownBlock)=>(split_tail (W:=W.drew) (f:=wr.heap.size) (ls:=z7.map fun x=>ZR s x.1) (by show wr.heap.size+3<=W.heap.size;omega) hv (by rw[NN];exact o1) (by rw[NN];exact o2) o3 z5 hu O (by rw[NN];exact ho) hg))
    have hc:=hv.cell;have hpl:z7.length<=1000:=by unfold parts at zf;omega
    have hv:Boxed W.drew wr.heap.size 252 v:=hv;clear o1 o2 o3 zV zT zX q8;gi_wp2;refine wpIn_region_any (by kernel_rfl) ?_;change wpAnyIn _ _ _ _ _ _ _ _ _ (World.drew _);refine wpAnyIn_ready (rs:=[0,1]) (by kernel_rfl) (by simp) ?_;refine AllReadyIn.cons rfl (fun K hK=>?_) (AllReadyIn.cons rfl (fun K hK=>?_) AllReadyIn.nil)
    ·go_simp
     refine hK _ _ ?_;clear hK K;refine wpAnyIn_ready (rs:=[1]) (by kernel_rfl) (by simp) ?_;refine AllReadyIn.cons rfl (fun K hK=>?_) AllReadyIn.nil;go_simp
     refine hK _ _ ?_;clear hK K;refine wpAnyIn_ready (rs:=[2]) (by kernel_rfl) (by simp) ?_;refine AllReadyIn.cons rfl (fun K hK=>?_) AllReadyIn.nil;go_simp
     refine⟨trivial,fun _=>by omega,?_⟩
     refine(CallsIn.inRound lp (callsIn_wide.2 zE)).mono ?_;rintro e w5 ⟨A7,c7,rfl,z1,z5⟩;rw[QK] at z1;rw[QK];have z9:Boxed w5 wr.heap.size 252 v:=Qe hv z5;have DX:=z9.cell;have zk:=(z9.alloc (.cells #[.slice A7 (ZR s x).length c7] 68)).cell;have z4:=DY z1;have z6:=DY z5;clear z1 z5 z9;refine hK _ _ ?_;clear hK K;refine wpAnyIn_ready (rs:=[3]) (by kernel_rfl) (by simp) ?_;refine AllReadyIn.cons rfl (fun K hK=>?_) AllReadyIn.nil;go_simp
     refine hK _ _ ?_;clear hK K;refine wpAnyIn_ready (rs:=[4]) (by kernel_rfl) (by simp) ?_;refine AllReadyIn.cons rfl (fun K hK=>?_) AllReadyIn.nil;rw[if_pos (by kernel_rfl)];refine Xs _ _ _ 252 rfl (wr.heap.size+3) 68 js (.slice none 0 0) 1 24 underlying252 zw zx zy zB rfl (by decide) v z7.length vs rfl (zz.out w5 z6.out _) ⟨w5.heap.size,0,none⟩ 1 1 [.slice A7 (ZR s x).length c7] rfl rfl (cell_one_new _ _ _) (by simp[Value.oneCell']) (by simp only[maxLen];omega) (by omega) (by have h5:W.heap.size<=w5.heap.size:=z6.out.size;simp;omega) ?_;intro v' w6 z0 za;obtain⟨g',cap',rfl⟩:=ownsRow_succ z0;obtain⟨t1,HT⟩:=zu.out w5 w6 _ _ _ z6 z4 z0 za;have zI:=t1.cell;have zF:=t1.frozen;have z2:=DY HT;clear HT t1 z0 za;refine hK _ _ ?_;clear hK K;refine wpAnyIn_ready (rs:=[5]) (by kernel_rfl) (by simp) ?_;refine AllReadyIn.cons rfl (fun K hK=>?_) AllReadyIn.nil;go_simp
     refine hK _ _ ?_;clear hK K;refine wpAnyIn_done (by kernel_rfl) ?_ _;exact⟨((KeepsOthers.drew W).trans z2.out.1).from _,KpC.trans ⟨(D6 _ W).drew,rfl,rfl⟩ z2.out.2.1,by rw[Ns];exact z2.out.2.2.1,hB.drew.trans z2.out.2.2.2⟩
    ·go_simp
     refine hK _ _ ?_;clear hK K;refine wpAnyIn_ready (rs:=[0,2]) (by kernel_rfl) (by simp) ?_;refine AllReadyIn.cons rfl (fun K hK=>?_) (AllReadyIn.cons rfl (fun K hK=>?_) AllReadyIn.nil)
     ·go_simp
      refine hK _ _ ?_;clear hK K;refine wpAnyIn_ready (rs:=[2]) (by kernel_rfl) (by simp) ?_;refine AllReadyIn.cons rfl (fun K hK=>?_) AllReadyIn.nil;go_simp
      refine⟨trivial,fun _=>by omega,?_⟩
      refine(CallsIn.inRound lp (callsIn_wide.2 zE)).mono ?_;rintro e w5 ⟨A7,c7,rfl,z1,z5⟩;rw[QK] at z1;rw[QK];have z9:Boxed w5 wr.heap.size 252 v:=Qe hv z5;have DX:=z9.cell;have zk:=(z9.alloc (.cells #[.slice A7 (ZR s x).length c7] 68)).cell;have z4:=DY z1;have z6:=DY z5;clear z1 z5 z9;refine hK _ _ ?_;clear hK K;refine wpAnyIn_ready (rs:=[3]) (by kernel_rfl) (by simp) ?_;refine AllReadyIn.cons rfl (fun K hK=>?_) AllReadyIn.nil;go_simp
      refine hK _ _ ?_;clear hK K;refine wpAnyIn_ready (rs:=[4]) (by kernel_rfl) (by simp) ?_;refine AllReadyIn.cons rfl (fun K hK=>?_) AllReadyIn.nil;rw[if_pos (by kernel_rfl)];refine Xs _ _ _ 252 rfl (wr.heap.size+3) 68 js (.slice none 0 0) 1 24 underlying252 zw zx zy zB rfl (by decide) v z7.length vs rfl (zz.out w5 z6.out _) ⟨w5.heap.size,0,none⟩ 1 1 [.slice A7 (ZR s x).length c7] rfl rfl (cell_one_new _ _ _) (by simp[Value.oneCell']) (by simp only[maxLen];omega) (by omega) (by have h5:W.heap.size<=w5.heap.size:=z6.out.size;simp;omega) ?_;intro v' w6 z0 za;obtain⟨g',cap',rfl⟩:=ownsRow_succ z0;obtain⟨t1,HT⟩:=zu.out w5 w6 _ _ _ z6 z4 z0 za;have zI:=t1.cell;have zF:=t1.frozen;have z2:=DY HT;clear HT t1 z0 za;refine hK _ _ ?_;clear hK K;refine wpAnyIn_ready (rs:=[5]) (by kernel_rfl) (by simp) ?_;refine AllReadyIn.cons rfl (fun K hK=>?_) AllReadyIn.nil;go_simp
      refine hK _ _ ?_;clear hK K;refine wpAnyIn_done (by kernel_rfl) ?_ _;exact⟨((KeepsOthers.drew W).trans z2.out.1).from _,KpC.trans ⟨(D6 _ W).drew,rfl,rfl⟩ z2.out.2.1,by rw[Ns];exact z2.out.2.2.1,hB.drew.trans z2.out.2.2.2⟩
     ·go_simp
      refine⟨trivial,fun _=>by omega,?_⟩
      refine(CallsIn.inRound lp (callsIn_wide.2 zE)).mono ?_;rintro e w5 ⟨A7,c7,rfl,z1,z5⟩;rw[QK] at z1;rw[QK];have z9:Boxed w5 wr.heap.size 252 v:=Qe hv z5;have DX:=z9.cell;have zk:=(z9.alloc (.cells #[.slice A7 (ZR s x).length c7] 68)).cell;have z4:=DY z1;have z6:=DY z5;clear z1 z5 z9;refine hK _ _ ?_;clear hK K;refine wpAnyIn_ready (rs:=[0,3]) (by kernel_rfl) (by simp) ?_;refine AllReadyIn.cons rfl (fun K hK=>?_) (AllReadyIn.cons rfl (fun K hK=>?_) AllReadyIn.nil)
      ·go_simp
       refine hK _ _ ?_;clear hK K;refine wpAnyIn_ready (rs:=[3]) (by kernel_rfl) (by simp) ?_;refine AllReadyIn.cons rfl (fun K hK=>?_) AllReadyIn.nil;go_simp
       refine hK _ _ ?_;clear hK K;refine wpAnyIn_ready (rs:=[4]) (by kernel_rfl) (by simp) ?_;refine AllReadyIn.cons rfl (fun K hK=>?_) AllReadyIn.nil;rw[if_pos (by kernel_rfl)];refine Xs _ _ _ 252 rfl (wr.heap.size+3) 68 js (.slice none 0 0) 1 24 underlying252 zw zx zy zB rfl (by decide) v z7.length vs rfl (zz.out w5 z6.out _) ⟨w5.heap.size,0,none⟩ 1 1 [.slice A7 (ZR s x).length c7] rfl rfl (cell_one_new _ _ _) (by simp[Value.oneCell']) (by simp only[maxLen];omega) (by omega) (by have h5:W.heap.size<=w5.heap.size:=z6.out.size;simp;omega) ?_;intro v' w6 z0 za;obtain⟨g',cap',rfl⟩:=ownsRow_succ z0;obtain⟨t1,HT⟩:=zu.out w5 w6 _ _ _ z6 z4 z0 za;have zI:=t1.cell;have zF:=t1.frozen;have z2:=DY HT;clear HT t1 z0 za;refine hK _ _ ?_;clear hK K;refine wpAnyIn_ready (rs:=[5]) (by kernel_rfl) (by simp) ?_;refine AllReadyIn.cons rfl (fun K hK=>?_) AllReadyIn.nil;go_simp
       refine hK _ _ ?_;clear hK K;refine wpAnyIn_done (by kernel_rfl) ?_ _;exact⟨((KeepsOthers.drew W).trans z2.out.1).from _,KpC.trans ⟨(D6 _ W).drew,rfl,rfl⟩ z2.out.2.1,by rw[Ns];exact z2.out.2.2.1,hB.drew.trans z2.out.2.2.2⟩
      ·go_simp
       refine hK _ _ ?_;clear hK K;refine wpAnyIn_ready (rs:=[0]) (by kernel_rfl) (by simp) ?_;refine AllReadyIn.cons rfl (fun K hK=>?_) AllReadyIn.nil;go_simp
       refine hK _ _ ?_;clear hK K;refine wpAnyIn_ready (rs:=[4]) (by kernel_rfl) (by simp) ?_;refine AllReadyIn.cons rfl (fun K hK=>?_) AllReadyIn.nil;rw[if_pos (by kernel_rfl)];refine Xs _ _ _ 252 rfl (wr.heap.size+3) 68 js (.slice none 0 0) 1 24 underlying252 zw zx zy zB rfl (by decide) v z7.length vs rfl (zz.out w5 z6.out _) ⟨w5.heap.size,0,none⟩ 1 1 [.slice A7 (ZR s x).length c7] rfl rfl (cell_one_new _ _ _) (by simp[Value.oneCell']) (by simp only[maxLen];omega) (by omega) (by have h5:W.heap.size<=w5.heap.size:=z6.out.size;simp;omega) ?_;intro v' w6 z0 za;obtain⟨g',cap',rfl⟩:=ownsRow_succ z0;obtain⟨t1,HT⟩:=zu.out w5 w6 _ _ _ z6 z4 z0 za;have zI:=t1.cell;have zF:=t1.frozen;have z2:=DY HT;clear HT t1 z0 za;refine hK _ _ ?_;clear hK K;refine wpAnyIn_ready (rs:=[5]) (by kernel_rfl) (by simp) ?_;refine AllReadyIn.cons rfl (fun K hK=>?_) AllReadyIn.nil;go_simp
       refine hK _ _ ?_;clear hK K;refine wpAnyIn_done (by kernel_rfl) ?_ _;exact⟨((KeepsOthers.drew W).trans z2.out.1).from _,KpC.trans ⟨(D6 _ W).drew,rfl,rfl⟩ z2.out.2.1,by rw[Ns];exact z2.out.2.2.1,hB.drew.trans z2.out.2.2.2⟩
   case done=>
    rintro D ys W hD zN ⟨⟨v,hv,hL⟩,hB⟩ hK;have hc:=hv.cell;have e1:(ys.map fun x=>ZR s x.1)=OQ s:=by
     unfold OQ chunksTo;rw[<-zN,List.map_map]
     rfl
    rw[e1] at hL;have HL:=Lib.hid hL;clear e1 zN hL;obtain⟨A8,c8,rfl,-⟩:=HL.out.lists;have zZ:=Lib.hid (HL.out.putObj (.deferred none) hK rfl);have q4:=Lib.hid (ownsRow_putObj (Qk zg (zM.trans hB)) (.deferred none) hK rfl);have q6:=Lib.hid (((HB.out.trans ((zM.trans hB).mono HB.out.size))).trans (belowK_b (w:=w) (Na _) W D _ (.deferred none) (by have:=HB.out.size;omega) hK rfl rfl));go_wp2;refine⟨by simp, .inl ⟨_,_,rfl,run_takeDeferred hK,?_⟩⟩
    refine⟨_,results_tmp3 rfl _ _ _,A8,c8,A6,c6,?_,?_,?_,q6.out⟩
    ·rw[HE.out.1,HE.out.2.1,HE.out.2.2,<-HM.out]
     rfl
    ·rw[HE.out.2.1];exact zZ.out.mono (by have:=HB.out.size;omega)
    ·rw[HE.out.2.2];exact Jz.of_own HM q4
   case stop=>
    rintro D c z7 W _ _ h _;exact h.elim
end
theorem U0(A:Option Addr)(c:Nat)(l:List Int)(hm:l.length<=65536)(w:World)(hr:Qh w w.heap.size A (iv l)):
  Calls prog 171 #[.slice A l.length c] w (Z4 l w):=callsIn_wide.1 (split_in 3 (by omega) A c l hm w hr)
end
def GE(n:Nat->Int)(w:World)(g r:Nat)(k:Nat)(W:World):Prop:=
 W.heap[g]?=some (.cells (QQ n) 65)/\(∃A c,Boxed W r 305 (.slice A (k+1) c)/\W.ownsRow w.heap.size 289 2 (.slice A (k+1) c) (k+1) (fv (Vp n k)))/\Below w.heap.size w W/\w.heap.size<=r/\g≠r
theorem GE.step{n:Nat->Int}{w:World}{g r k:Nat}{W:World}(hk:k<11)(lo hi:Int)(h:GE n w g r k W):
  Calls prog 182 (#[.pointer (some ⟨g,k,none⟩), .int .i64 lo, .int .i64 hi]++#[.pointer (some ⟨r,0,none⟩)]) W (DL (GE n w g r) (k+1) W):=by
 obtain⟨hg,⟨A,c,hb,ho⟩,z2,hr,z4⟩:=h;refine(put1_any ⟨g,k,none⟩ r (k+1) w.heap.size c A (fv (Vp n k)) lo hi (n k) W (Qa hg k (Ot n k hk)) hb ho z2.size hr (by omega)).mono ?_;rintro e w1 ⟨rfl,A',c',z7,z6,z3,z1⟩;have z5:g<W.heap.size:=(D0.1 hg).1;refine⟨rfl,⟨?_,⟨A',c',z7,?_⟩,z2.trans z1,hr,z4⟩,?_⟩
 ·rw[z3 g z5 z4 (Qi hg (by decide) ho)];exact hg
 ·rw[fldS_snoc,fv_append];exact z6
 ·intro b cur fz z0;rw[z3 b (D0.1 z0).1 ?_ (Qi z0 (by decide) ho)]
  ·exact z0
  ·rintro rfl;have:=hb.symm.trans z0;simp at this
theorem GE.stable{n:Nat->Int}{w:World}{g r k:Nat}{W:World}(h:GE n w g r k W):(∀m,GE n w g r k (W.drewN m))/\∀o,GE n w g r k (W.alloc o):=by
 obtain⟨hg,⟨A,c,hb,ho⟩,z0,hr,z1⟩:=h;exact⟨fun m=>⟨hg,⟨A,c,hb,ho⟩,Qs z0 m,hr,z1⟩,fun o=>⟨Qj hg o,⟨A,c,hb.alloc o,ho.alloc o⟩,z0.alloc z0.size o,hr,z1⟩⟩
theorem put1_enter(args:Array Value)(W:World):Sem.run prog (callFunc 182 args) W= .ok (.enter 182 args) W:=by
 go_simp
theorem eachput_any(n:Nat->Int)(w:World)(g r:Nat)(W:World)(h:GE n w g r 0 W):
  Calls prog 130 #[.pointer (some ⟨g,0,none⟩), .func (.func 182) #[] #[.pointer (some ⟨r,0,none⟩)]] W fun e w'=>e= .returned (.tuple #[])/\GE n w g r 11 w':=
 Gp g 182 #[.pointer (some ⟨r,0,none⟩)] (GE n w g r) (n 4) W put1_enter (fun k W m h=>h.stable.1 m) (fun k W o h=>h.stable.2 o) (fun k W hk h=>Qa h.1 4 rfl)
  (fun W h=>h.step (by omega) _ _) (fun W h=>h.step (by omega) _ _) (fun W h=>h.step (by omega) _ _) (fun W h=>h.step (by omega) _ _) (fun W h=>h.step (by omega) _ _) (fun k W _ h11 h=>h.step h11 _ _) h
theorem E5(n:Nat->Int):(bv (List.replicate 244 0)).take 0++(bv [83,67,65,78,84,76,73,78]++(bv (List.replicate 244 0)).drop (0+[(83:UInt8),67,65,78,84,76,73,78].length))=bv (J9++List.replicate 236 0)/\
  (bv (J9++List.replicate 236 0)).take 8++((bv (ZC (Vp n 11))).take (244-8)++(bv (J9++List.replicate 236 0)).drop (8+(bv (ZC (Vp n 11))).length))=bv (VG n):=by
 constructor
 ·rw[Xj,Xi,<-Ze,<-Ze]
  rfl
 ·have h1:(ZC (Vp n 11)).take (244-8)=ZC (Vp n 11):=NW (by rw[Jl];decide);have h2:(J9++List.replicate 236 0).take 8=J9:=rfl;have h3:(J9++List.replicate 236 0).drop (8+48)=List.replicate 188 (0:UInt8):=rfl;rw[Qm,Jl,Xj,Xi,Xi,<-Ze,<-Ze,h1,h2,h3]
  rfl
theorem Ej(n:Nat->Int)(hw:∀i,i<11->(Lit.int .i64 (n i)).wf=true)(w:World):
  Calls prog 113 #[.agg (QQ n)] w (Xl 5 (bv (XT n)) (JP n) w):=by
 have z5:=fun W=>RC n W
 have zg:=fun g r W h=>eachput_any n w g r W h
 have zq:(prog.info? 5).map (·.size)=some 1:=by kernel_rfl
 obtain⟨i0,hi,zD,zx,zy⟩:=info_parts Tryz.infoU8;have ze:(prog.info? 65).map (·.size)=some (QQ n).size:=by
  rw[show(QQ n).size=11 from rfl]
  kernel_rfl
 have zb:=heap_alloc_new w (.cells (QQ n) 65);cases hok:okS n 11 with
 |false=>
  have hv:XT n=[]/\JP n=1:=by unfold XT JP;rw[hok];exact⟨rfl,rfl⟩
  rw[hv.1,hv.2];rw[hok] at z5;clear hv zg hok;generalize QQ n=C at*;go_enter func113,ntmps113
  go_wp2_with (refine wpList_load_row rfl 65 _ rfl w.heap.size rfl 65 _ _ _ zb underlying65 rfl ze ?_)
  refine(z5 _).mono ?_;rintro e w1 ⟨rfl,z7⟩;have hB:=Qb (Qd w _) z7;clear z5 z7;go_wp2;go_ret2
  exact⟨none,0,rfl,Nb _ _ _ _,hB⟩
 |true=>
  have hv:XT n=VG n/\JP n=0:=by unfold XT JP;rw[hok];exact⟨rfl,rfl⟩
  have z6:=fldS_ok hok;have zf:=fun A c W h=>J0 A c (Vp n 11) W (by rw[Gj];decide) (by
   intro p hp;unfold Vp at hp;rcases Nt.1 hp with rfl|hp
   ·decide
   ·obtain⟨i,hi,rfl⟩:=LA.1 hp;exact hw i (by simpa using hi)) h
  rw[show YH (Vp n 11)=ZC (Vp n 11) by unfold YH;rw[if_pos z6],z6,Gj] at zf
  rw[hv.1,hv.2];rw[hok] at z5;have zB:∀W r,W.heap[w.heap.size]?=some (.cells (QQ n) 65)->Boxed W r 305 (.slice (some ⟨r-1,0,none⟩) 1 1)->True:=fun _ _ _ _=>trivial
  have HC:Hid (QQ n=QQ n):=rfl;have zp:=DY (Ji n);have HS:=DY (E5 n);have zc:=DY (Jl n);clear hv hok z6 zB HC;go_enter func113,ntmps113
  generalize hC:QQ n=C at*;go_wp2_with (refine wpList_load_row rfl 65 _ rfl w.heap.size rfl 65 _ _ _ zb underlying65 rfl ze ?_)
  refine(z5 _).mono ?_;rintro e w1 ⟨rfl,z7⟩;have zd:=Qe zb z7;have hB:=Qb (Qd w _) z7;clear z5 z7 zb;go_wp2_with fail
  have za:=LL (e:=289) (size:=2) (base:=w.heap.size) w1 #[.int .i64 4, .int .i64 1] 1 hB.size (by decide) (by rfl);have zi:=Boxed.new (w1.alloc (.cells #[.int .i64 4, .int .i64 1] 289)) 305 (.slice (some ⟨w1.heap.size,0,none⟩) 1 1);rw[Nr] at zi;have zt:w.heap.size<w1.heap.size:=(D0.1 zd).1;have z6:GE n w w.heap.size (w1.heap.size+1) 0 ((w1.alloc (.cells #[.int .i64 4, .int .i64 1] 289)).alloc (.cells #[.slice (some ⟨w1.heap.size,0,none⟩) 1 1] 305)):=by
   refine⟨?_,⟨_,_,zi,za.alloc _⟩,hB.trans ((QG w1 _ _).mono hB.size),by omega,by omega⟩
   rw[hC];exact Qj (Qj zd _) _
  refine(zg _ _ _ z6).mono ?_;rintro e w2 ⟨rfl,zu⟩;clear z6 zi za zg zd ze;obtain⟨-,⟨A2,c2,zk,zs⟩,z8,hr2,-⟩:=zu;have zr:=YC.of_own (by rw[Gj]) zs;have DU:=zk.cell;clear zs hC;go_wp2_with fail
  refine(zf _ _ _ zr).mono ?_;rintro e w3 ⟨A3,c3,rfl,zj,zl⟩;rw[Qm,zc.out] at zj;rw[Qm,zc.out];have z9:=z8.trans (zl.mono z8.size);have zw:=Qh.of_own zj;have HM:=DY (show(madeCells (Value.int .u8 0).cells (244*1)).toList=bv (List.replicate 244 0) from Ga 244);clear zf zl zk DU zr zt;go_wp2_with (at_make;refine wpList_make_full _ rfl (.const _) (.const _) _ rfl w.heap.size 5 i0 _ 1 underlying22 hi zD zx .i64 .i64 244 244 244 rfl rfl (by omega) (by omega) (by rw[zy];omega) (by simp only[maxLen];omega) z9.size ?_;intro w4 z2 zh;rw[HM.out] at z2;have zm:Below w.heap.size w w4:=z9.grown zh z9.size (fun k hk=>by cases hk);have zC:=zw.grown zh (Na _) (fun k hk=>by cases hk);obtain⟨w5,z4,z1,zn,hs5⟩:=Ox w4 22 9 3 5 underlying22 zq w.heap.size w3.heap.size 244 244 (bv (List.replicate 244 0)) z2 0 244 244 [83,67,65,78,84,76,73,78] (by decide) (by decide);rw[HS.out.1] at z1;have zo:Below w.heap.size w w5:=zm.grown zn zm.size (fun k hk=>by cases hk;exact z9.size);have zv:=zC.grown zn (by have:=zh.size;omega) (fun k hk=>by cases hk;omega);obtain⟨w6,z0,z3,zA,hs6⟩:=XY w5 22 22 3 5 underlying22 zq w.heap.size w3.heap.size 244 244 (bv (J9++List.replicate 236 0)) z1 8 (by decide) (some ⟨w3.heap.size,8,none⟩) 236 236 (by decide) (fun _=>rfl) w3.heap.size A3 48 c3 (bv (ZC (Vp n 11))) (by rw[Qm,zc.out]) zv (Yz _);rw[HS.out.2] at z3;have zz:Below w.heap.size w w6:=zo.grown zA zo.size (fun k hk=>by cases hk;exact z9.size);have z4:(Builtin.copy_ #[22,9] 3 #[.slice (some ⟨w3.heap.size,0,none⟩) 244 244, .string ⟨#[83,67,65,78,84,76,73,78]⟩]).run prog w4= .ok (.int .i64 8) w5:=z4;have z0:(Builtin.copy_ #[22,22] 3 #[.slice (some ⟨w3.heap.size,8,none⟩) 236 236, .slice A3 48 c3]).run prog w5= .ok (.int .i64 48) w6:=z0)
  go_ret2
  exact⟨_,244,by rw[Qm,zp.out];rfl,by rw[Qm,zp.out];exact z3,zz⟩
theorem read1_any(g j r b c:Nat)(A:Option Addr)(l:List UInt8)(a lo hi:Int)(w:World)(cs:Array Value)(old:Int)(hm:l.length<=reachBytes)(ha:0<=a/\a<=1000)
  (hg:w.heap[g]?=some (.cells cs 65)) (hj:cs[j]?=some (.int .i64 old)) (hb:Boxed w b 22 (.slice A l.length c)) (hr:Boxed w r 3 (.int .i64 a)) (hl:Qh w w.heap.size A (bv l)):
  Calls prog 151 #[.pointer (some ⟨g,j,none⟩), .int .i64 lo, .int .i64 hi, .pointer (some ⟨b,0,none⟩), .pointer (some ⟨r,0,none⟩)] w fun e w'=>e= .returned (.tuple #[])/\
   w'=(w.setCell ⟨g,j,none⟩ (.int .i64 (ZZ l a 4).1)).setCell ⟨r,0,none⟩ (.int .i64 (a+4)):=by
 have hcj:=Qa hg j hj;have hfj:w.frozen? ⟨g,j,none⟩=false:=frozen_of_row w g j cs 65 hg;have hcb:=hb.cell;have z1:=hr.cell;have z3:=hr.frozen;have z2:g≠r:=by
  rintro rfl;have:=hr.symm.trans hg;simp at this
 have hcr2:∀v,(w.setCell ⟨g,j,none⟩ v).cell? ⟨r,0,none⟩=some (.int .i64 a):=fun v=>by
  rw[World.cell?_setCell_far _ _ _ _ z2];exact z1
 have hfr2:∀v,(w.setCell ⟨g,j,none⟩ v).frozen? ⟨r,0,none⟩=false:=fun v=>by rw[World.frozen?_setCell];exact z3
 have z0:=Uz A c l a 4 w _ hm hl;generalize ZZ l a 4=q at*;clear hl hb hr hg hj;go_enter func151,ntmps151
 go_wp2_with fail
 refine z0.mono ?_;rintro e w1 ⟨rfl,rfl⟩;go_wp2;exact end0 (by rfl) rfl ⟨rfl,rfl⟩
def midN(l:List UInt8)(k i:Nat):Int:=if i<k then ZT l i else 0
theorem midN_set(l:List UInt8)(k:Nat)(hk:k<11):(QQ (midN l k)).setIfInBounds k (.int .i64 (ZT l k))=QQ (midN l (k+1)):=by
 have:k=0∨k=1∨k=2∨k=3∨k=4∨k=5∨k=6∨k=7∨k=8∨k=9∨k=10:=by omega
 rcases this with rfl|rfl|rfl|rfl|rfl|rfl|rfl|rfl|rfl|rfl|rfl<;>rfl
def GG(l:List UInt8)(w:World)(g b r:Nat)(A:Option Addr)(c:Nat)(k:Nat)(W:World):Prop:=
 W.heap[g]?=some (.cells (QQ (midN l k)) 65)/\Boxed W b 22 (.slice A l.length c)/\Boxed W r 3 (.int .i64 (12+4*(k:Int)))/\Qh W w.heap.size A (bv l)/\Below w.heap.size w W/\w.heap.size<=g/\w.heap.size<=r
theorem GG.stable{l:List UInt8}{w:World}{g b r:Nat}{A:Option Addr}{c k:Nat}{W:World}(h:GG l w g b r A c k W):(∀m,GG l w g b r A c k (W.drewN m))/\∀o,GG l w g b r A c k (W.alloc o):=by
 obtain⟨h1,h2,h3,h4,h5,h6,h7⟩:=h;exact⟨fun m=>⟨h1,h2,h3,h4,Qs h5 m,h6,h7⟩,fun o=>⟨Qj h1 o,h2.alloc o,h3.alloc o,h4.alloc h5.size o,h5.alloc h5.size o,h6,h7⟩⟩
theorem GG.step{l:List UInt8}{w:World}{g b r:Nat}{A:Option Addr}{c k:Nat}{W:World}(hl:l.length=244)(hk:k<11)(lo hi:Int)(h:GG l w g b r A c k W):
  Calls prog 151 (#[.pointer (some ⟨g,k,none⟩), .int .i64 lo, .int .i64 hi]++#[.pointer (some ⟨b,0,none⟩), .pointer (some ⟨r,0,none⟩)]) W (DL (GG l w g b r A c) (k+1) W):=by
 obtain⟨h1,h2,h3,h4,h5,h6,h7⟩:=h;refine(read1_any g k r b c A l (12+4*(k:Int)) lo hi W (QQ (midN l k)) (midN l k k) (by rw[hl];decide) (by omega) h1 (Ot _ k hk) h2 h3 (h4.more h5.size)).mono ?_;rintro e w1 ⟨rfl,rfl⟩;rw[getV_readN l k hl hk];have z0:g≠r:=by
  rintro rfl;have:=h3.symm.trans h1;simp at this
 have z2:b≠g:=by
  rintro rfl;have:=h2.symm.trans h1;simp at this
 have z1:b≠r:=by
  rintro rfl;have:=h2.symm.trans h3;simp at this
 have hbw:b<W.heap.size/\r<W.heap.size:=⟨h2.lt,h3.lt⟩;refine⟨rfl,⟨?_,?_,?_,?_,?_,h6,h7⟩,?_⟩
 ·rw[heap_setCell_other _ _ _ _ (by simpa using z0),heap_setCell_same W g k _ _ _ h1,midN_set l k hk]
 ·exact(h2.kept (Lib.grownBy_setCell W g k _) (by simpa using z2)).kept (Lib.grownBy_setCell _ r 0 _) (by simpa using z1)
 ·rw[show(12+4*((k+1:Nat):Int))=12+4*(k:Int)+4 by omega]
  exact(h3.kept (Lib.grownBy_setCell W g k _) (by simpa using fun e:r=g=>z0 e.symm)).set _
 ·exact(h4.setCell (p:=⟨g,k,none⟩) h6 _).setCell (p:=⟨r,0,none⟩) h7 _
 ·exact(h5.setCell (p:=⟨g,k,none⟩) h6 _).setCell (p:=⟨r,0,none⟩) h7 _
 ·intro q cur fz hq;have n1:q≠r:=by
   rintro rfl;have:=h3.symm.trans hq;simp at this
  have n2:q≠g:=by
   rintro rfl;have:=h1.symm.trans hq;simp at this
  rw[heap_setCell_other _ _ _ _ (by simpa using n1),heap_setCell_other _ _ _ _ (by simpa using n2)];exact hq
theorem read1_enter(args:Array Value)(W:World):Sem.run prog (callFunc 151 args) W= .ok (.enter 151 args) W:=by
 go_simp
theorem Dw(l:List UInt8)(hl:l.length=244)(w:World)(g b r:Nat)(A:Option Addr)(c:Nat)(W:World)(h:GG l w g b r A c 0 W):
  Calls prog 130 #[.pointer (some ⟨g,0,none⟩), .func (.func 151) #[] #[.pointer (some ⟨b,0,none⟩), .pointer (some ⟨r,0,none⟩)]] W fun e w'=>e= .returned (.tuple #[])/\GG l w g b r A c 11 w':=
 Gp g 151 #[.pointer (some ⟨b,0,none⟩), .pointer (some ⟨r,0,none⟩)] (GG l w g b r A c) (ZT l 4) W read1_enter (fun k W m h=>h.stable.1 m) (fun k W o h=>h.stable.2 o) (fun k W hk h=>by
   have:=Qa h.1 4 (Ot _ 4 (by omega));rw[show midN l k 4=ZT l 4 from if_pos (by omega)] at this
   exact this)
  (fun W h=>h.step hl (by omega) _ _) (fun W h=>h.step hl (by omega) _ _) (fun W h=>h.step hl (by omega) _ _) (fun W h=>h.step hl (by omega) _ _) (fun W h=>h.step hl (by omega) _ _) (fun k W _ h11 h=>h.step hl h11 _ _) h
end Go.Proofs.YtijcgllddnpmhaaGreatDoor
