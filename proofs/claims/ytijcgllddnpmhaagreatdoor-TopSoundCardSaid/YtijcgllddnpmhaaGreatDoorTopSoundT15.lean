/- TopSound: lemmas, part 15. -/
import Derived.Test.YtijcgllddnpmhaaGreatDoorTopSoundT14
import Derived.RangeFuncNested
import Derived.Laws.OwnMore
import Derived.Test.YtijcgllddnpmhaaGreatDoorTopSoundT13
set_option maxRecDepth 100000
set_option maxHeartbeats 16000000
set_option linter.all false
namespace Go.Proofs.YtijcgllddnpmhaaGreatDoor
open Go.RowKit Go.Proofs.Tryz
theorem YE{fn:Func}{p:Tmp}{ty:TypeId}(h:fn.results=#[.cell p ty])(tmps:Array Value)(P:Program)(w:World):
  (results fn tmps).run P w=((asAddr (tmps.getD p undef)).run P w).andThen fun a w₁=>(loadVar ty a).run P w₁:=by
 simp only[results,h];simp[Sem.run_bind,Result.andThen]
theorem Ko(w:World):Calls prog 191 #[] w fun e w'=>e= .returned (.agg #[.int .i64 0, .int .i64 281474976710656])/\Below w.heap.size w w':=by
 go_enter func191,ntmps191
 go_wp2
 try simp only[Exit.inBlock,Exit.then]
 refine bodyPost_ret (v:= .agg #[.int .i64 0, .int .i64 281474976710656]) (by rw[YE rfl];go_simp) rfl ?_;exact⟨rfl,Qd _ _⟩
theorem YF(lo hi k:Int)(w:World):Calls prog 269 #[.agg #[.int .i64 lo, .int .i64 hi], .int .i64 k] w fun e w'=>e= .returned (.bool (Ue lo hi k))/\Below w.heap.size w w':=by
 have hk:=heap_alloc_new w (.cells #[.int .i64 lo, .int .i64 hi] 329);obtain⟨c0,c1⟩:=DU hk;have hb:=Qd w (.cells #[.int .i64 lo, .int .i64 hi] 329);have HE:=DY (show Ue lo hi k=(decide (lo<=k)&&decide (k<hi)) by unfold Ue;simp);clear hk;by_cases h1:lo<=k
 ·have d1:decide (lo<=k)=true:=decide_eq_true h1;go_enter func269,ntmps269
  go_wp2;go_ret;exact⟨by rw[HE.out,d1];rfl,hb⟩
 ·have d1:decide (lo<=k)=false:=decide_eq_false h1;go_enter func269,ntmps269
  go_wp2;go_ret;exact⟨by rw[HE.out,d1];rfl,hb⟩
theorem GK(lo hi:Int)(w:World):Calls prog 268 #[.agg #[.int .i64 lo, .int .i64 hi]] w fun e w'=>e= .returned (.bool (JQ lo hi))/\Below w.heap.size w w':=by
 have hk:=heap_alloc_new w (.cells #[.int .i64 lo, .int .i64 hi] 329);have hb:=Qd w (.cells #[.int .i64 lo, .int .i64 hi] 329);have HE:=DY (show JQ lo hi=(decide (0<=lo)&&(decide (lo<=hi)&&decide (hi<=281474976710656))) by unfold JQ;simp)
 have KA:=Ko (w.alloc (.cells #[.int .i64 lo, .int .i64 hi] 329));generalize JQ lo hi=b at*;go_enter func268,ntmps268
 go_wp2_with fail
 refine KA.mono ?_;rintro e w2 ⟨rfl,z1⟩;have HB:=DY ((Qb hb z1).alloc (Qb hb z1).size (.cells #[.int .i64 0, .int .i64 281474976710656] 329));have z2:=Qj (Qe hk z1) (.cells #[.int .i64 0, .int .i64 281474976710656] 329);obtain⟨c0,c1⟩:=DU z2;clear KA hk hb z1 z2;by_cases h1:0<=lo
 ·have d1:decide (0<=lo)=true:=decide_eq_true h1;by_cases h2:lo<=hi
  ·have d2:decide (lo<=hi)=true:=decide_eq_true h2;by_cases h3:hi<=281474976710656
   ·have d3:decide (hi<=281474976710656)=true:=decide_eq_true h3;have z0:=Lib.hid (show b=true by rw[HE.out,d1,d2,d3];rfl);clear h1 h2 h3;go_wp2;go_ret;exact⟨by rw[z0.out];rfl,HB.out⟩
   ·have d3:decide (hi<=281474976710656)=false:=decide_eq_false h3;have z0:=Lib.hid (show b=false by rw[HE.out,d1,d2,d3];rfl);clear h1 h2 h3;go_wp2;go_ret;exact⟨by rw[z0.out];rfl,HB.out⟩
  ·have d2:decide (lo<=hi)=false:=decide_eq_false h2;have z0:=DY (show b=false by rw[HE.out,d1,d2];rfl);clear h1 h2;go_wp2;go_ret;exact⟨by rw[z0.out];rfl,HB.out⟩
 ·have d1:decide (0<=lo)=false:=decide_eq_false h1;have z0:=DY (show b=false by rw[HE.out,d1];rfl);clear h1;go_wp2;go_ret;exact⟨by rw[z0.out];rfl,HB.out⟩
theorem Eg:∀l:List Int,VK l=true↔∀i,i+1<l.length->l.getD i 0<l.getD (i+1) 0
 |[]=>⟨fun _ i h=>by simp at h,fun _=>rfl⟩
 |[_]=>⟨fun _ i h=>by simp at h,fun _=>rfl⟩
 |a::b::r=>by
  have ih:=Eg (b::r);unfold VK;rw[Nu,decide_eq_true_iff,ih];constructor
  ·rintro⟨h1,h2⟩ i hi;cases i with
   |zero=>simpa using h1
   |succ i=>simpa using h2 i (by simpa using hi)
  ·intro h;refine⟨by simpa using h 0 (by simp),fun i hi=>?_⟩
   simpa using h (i+1) (by simpa using hi)
def GivesFit(b:Bool)(w:World)(e:Ending)(w':World):Prop:=∃n:Int,e= .returned (.int .i64 n)/\(n=0↔b=true)/\Below w.heap.size w w'
theorem Ou(A:Option Addr)(c:Nat)(keys:List Int)(lo hi:Int)(w:World)(hm:keys.length<=1000)(h:Qh w w.heap.size A (iv keys)):
  Calls prog 258 #[.agg #[.int .i64 lo, .int .i64 hi], .slice A keys.length c] w (GivesFit (Z0 lo hi keys) w):=by
 obtain⟨w1,zi,zc,zg⟩:=DS w (.cells #[.int .i64 lo, .int .i64 hi] 329);have KR:=GK lo hi w1;have HF:=DY (show Z0 lo hi keys=(JQ lo hi&&(VK keys&&(decide (keys=[])||(Ue lo hi (keys.headD 0)&&Ue lo hi (keys.getLastD 0))))) from rfl)
 have zf:=DY (Eg keys);have HR:=DY (h.below zc);have z9:=DY zc;have z6:=DY zg;clear h zc zg;generalize Z0 lo hi keys=ft at*;have e0:=Qa z6 0 rfl;have e1:=Qa z6 1 rfl;go_enter func258,ntmps258
 go_upto_region 1 with fail
 rw[<-zi];clear zi;go_wp2_with fail
 refine KR.mono ?_;rintro e w2 ⟨rfl,z5⟩;have zl:=DY (Qb z9 z5);have zp:=DY (Qe z6 z5);have zj:=DY (HR.out.below (z5.mono z9.out.size));clear KR z5 z9 z6 HR e0 e1;cases hs:JQ lo hi with
 |false=>
  have z0:=DY (show ft=false by rw[HF.out,hs];rfl);clear hs;go_wp2;go_ret;exact⟨1,rfl,by rw[z0.out];simp,zl.out⟩
 |true=>
  have ze:=DY (show ft=(VK keys&&(decide (keys=[])||(Ue lo hi (keys.headD 0)&&Ue lo hi (keys.getLastD 0)))) by rw[HF.out,hs];rfl)
  clear hs HF;go_wp2_with fail
  go_loopw [5] (fun s5 wr=>∃(j q:Nat),j<=keys.length/\s5= .int .i64 ((j:Int)+1)/\Hid (∀i,i<j->i+1<keys.length->keys.getD i 0<keys.getD (i+1) 0)/\wr=w2.drewN q) (fun s5 _=>1002-(intOf s5).toNat)
  case atStart=>exact⟨0,0,by omega,rfl,DY (fun i hi=>by omega),rfl⟩
  case round=>
   obtain⟨j,q,hk,rfl,HI,z4⟩:=hrel;have zq:=DY z4;have z1:=DY (show Below w.heap.size w wr by rw[z4];exact Zn zl q);have zk:=DY (show wr.heap[w.heap.size]?=some (.cells #[.int .i64 lo, .int .i64 hi] 329) by rw[z4];exact zp.out);have zb:=DY (show Qh wr w.heap.size A (iv keys) by rw[z4];exact zj.out);clear z4;by_cases hlt:j+1<keys.length
   ·obtain⟨ad,rfl,hb,hc⟩:=zb.out (by rw[QK];omega);have c0:=hc j (.int .i64 (keys.getD j 0)) (by rw[Ub keys j (by omega)];simp[D9,D1 (show j<keys.length by omega)]);have c1:wr.cell? ⟨ad.block,ad.off+(j+1),none⟩=some (.int .i64 (keys.getD (j+1) 0)):=hc (j+1) (.int .i64 (keys.getD (j+1) 0)) (by rw[Ub keys (j+1) (by omega)];simp[D9,D1 (show j+1<keys.length by omega)]);have i1:(j:Int)+1<(keys.length:Int):=by omega
    have i2:(0:Int)<=(j:Int):=by omega
    have i3:(j:Int)<(keys.length:Int):=by omega
    have za:=Lib.hid (fun(h:¬keys.getD j 0<keys.getD (j+1) 0)=>(show VK keys=false from Bool.eq_false_iff.2 (fun h2=>h (zf.out.1 h2 j hlt))))
    have zd:=Lib.hid (fun(h:keys.getD j 0<keys.getD (j+1) 0) (i:Nat) (hi:i<j+1) (h2:i+1<keys.length)=>(show keys.getD i 0<keys.getD (i+1) 0 from by
     rcases NC i j with h3|h3
     ·exact HI i h3 h2
     ·obtain rfl:i=j:=by omega
      exact h))
    clear hb hc;generalize keys.getD j 0=x0 at*;generalize keys.getD (j+1) 0=x1 at*;by_cases hx:x1<=x0
    ·have dx:decide (x1<=x0)=true:=decide_eq_true hx;have z0:=DY (show ft=false by rw[ze.out,za.out (by omega)];rfl);clear hx za zd;go_upto_region 6 with fail
     go_quiet (fail)
     go_wp2;go_ret;exact⟨8,rfl,by rw[z0.out];simp,Zn z1 _⟩
    ·have dx:decide (x1<=x0)=false:=decide_eq_false hx;have HN:=DY (zd.out (by omega));clear hx za zd;go_upto_region 6 with fail
     go_quiet (fail)
     go_wp2;go_roundw
     case rel=>exact⟨j+1,q+nq,by omega,by first|rfl|go_num,DY HN.out,by rw[zq.out,World.drewN_drewN]⟩
     case measure=>simp[intOf];omega
   ·have i1:decide ((j:Int)+1<(keys.length:Int))=false:=decide_eq_false (by omega);have zh:decide (j+1<keys.length)=false:=decide_eq_false (by omega);have zm:=Lib.hid (show VK keys=true from zf.out.2 (fun i hi=>HI.out i (by omega) hi));have z7:=Lib.hid (show ft=(decide (keys=[])||(Ue lo hi (keys.headD 0)&&Ue lo hi (keys.getLastD 0))) by rw[ze.out,zm.out];rfl)
    clear ze HI zf zm;go_upto_region 8 with fail
    rcases N6 keys.length with h0|h0
    ·have z0:=DY (show ft=true by rw[z7.out,NL h0];rfl);have d0:decide (0<keys.length)=false:=decide_eq_false (by omega);have z2:=(D6 wr.heap.size wr).drew;clear z7 h0 hlt i1 zh hk;refine wp_region_held_drew (S:=(fun V=>Below wr.heap.size wr V)) (by kernel_rfl) ?_ (fun hHeld=>?_)
     (focus((try dsimp only);(first|exact z2|assumption)))
     refine QD (.f 0 (.f 1 (.f 2 (.f 3 (.f 4 (.f 5 (.f 6 (.f 7 (.o 8 (.f 9 (.f 10 (.f 11 (.f 12 (.f 13 (.f 14 (.f 15 (.f 16 (.f 17 (.o 18 (.f 19 (.f 20 (.f 21 .e)))))))))))))))))))))) ?_
     repeat' ((first|(refine QL (v:=?_) (hv:=?_) (h:=?_);rotate_left;(focus(first|(refine .inr ⟨by rfl,?_⟩;rfl)|(refine .inl ⟨by rfl,?_⟩;intro w hSw;(try dsimp only at hSw);(try simp only[D8,List.getElem_cons_succ,D5]);go_simp;try(with_reducible rfl)))))|(refine Qr (h:=?_))|(((refine Qx (h:=fun K hK=>?_))<;>((try simp only[D8,D4,D5]);go_simp))<;>(skip;refine hK.out _ _ ?_ (fun hHeld=>?_);(focus((try dsimp only);(first|exact z2|assumption)));clear hK K)))<;>(try simp only[Act.put,Nc,Nf,Ng]))
     all_goals (refine Qu ?_;refine wpAnyH_done (by kernel_rfl) ?_ _)
     have HH:=DY (z1.out.trans (hHeld.mono z1.out.size));go_wp2;go_ret;exact⟨0,rfl,by rw[z0.out];simp,HH.out⟩
    ·obtain⟨ad,rfl,hb,hc⟩:=zb.out (by rw[QK];omega);obtain⟨m,hm'⟩:∃m,keys.length=m+1:=⟨keys.length-1,by omega⟩
     have c0:wr.cell? ad=some (.int .i64 (keys.headD 0)):=hc 0 (.int .i64 (keys.headD 0)) (by
      rw[Ub keys 0 (by omega)];cases keys with
      |nil=>simp at h0
      |cons a r=>rfl)
     have c1:=hc m (.int .i64 (keys.getLastD 0)) (by
      rw[Ub keys m (by omega),show keys.getLastD 0=keys[m] from by
       have h1:keys.length-1=m:=by omega
       rw[List.getLastD_eq_getLast?,List.getLast?_eq_getElem?,h1,D1 (by omega)]
       rfl])
     have z8:=DY (show ft=(Ue lo hi (keys.headD 0)&&Ue lo hi (keys.getLastD 0)) by
      rw[z7.out,show decide (keys=[])=false from decide_eq_false (fun h=>by rw[h] at h0;simp at h0)];rfl)
     have e0:wr.cell? ⟨w.heap.size,0,none⟩=some (.int .i64 lo):=Qa zk 0 rfl;have e1:wr.cell? ⟨w.heap.size,1,none⟩=some (.int .i64 hi):=Qa zk 1 rfl;have zo:=fun V=>YF lo hi (keys.headD 0) V
     have zn:=fun V=>YF lo hi (keys.getLastD 0) V
     clear hb hc z7 h0 hlt i1 zh hk zb zj;generalize keys.headD 0=k0 at*;generalize keys.getLastD 0=km at*;generalize keys.length=n at*;subst hm';have i4:(0:Int)<=(m:Int):=by omega
     have i5:(0:Int)<(m:Int)+1:=by omega
     have i6:(m:Int)<(m:Int)+1:=by omega
     have i7:(m:Int)<=1000:=by omega
     have i8:IntKind.i64.wrap (m:Int)=(m:Int):=by rw[Nv];omega
     have z2:=(D6 wr.heap.size wr).drew;have HK:=DY (fun(V V':World) (hb:Below V.heap.size V V') (hS:Below wr.heap.size wr V/\V.cell? ⟨w.heap.size,0,none⟩=some (.int .i64 lo)/\V.cell? ⟨w.heap.size,1,none⟩=some (.int .i64 hi)/\V.cell? ad=some (.int .i64 k0)/\V.cell? (ad.add m)=some (.int .i64 km))=>
      (show Below wr.heap.size wr V'/\V'.cell? ⟨w.heap.size,0,none⟩=some (.int .i64 lo)/\V'.cell? ⟨w.heap.size,1,none⟩=some (.int .i64 hi)/\V'.cell? ad=some (.int .i64 k0)/\V'.cell? (ad.add m)=some (.int .i64 km) from
       ⟨Qb hS.1 hb,Qg hb hS.2.1,Qg hb hS.2.2.1,Qg hb hS.2.2.2.1,Qg hb hS.2.2.2.2⟩))
     clear zo zn;cases q1:Ue lo hi k0 with
     |false=>
      have z0:=DY (show ft=false by rw[z8.out,q1];rfl);clear z8;refine wp_region_held_drew (S:=(fun V=>Below wr.heap.size wr V/\V.cell? ⟨w.heap.size,0,none⟩=some (.int .i64 lo)/\V.cell? ⟨w.heap.size,1,none⟩=some (.int .i64 hi)/\V.cell? ad=some (.int .i64 k0)/\V.cell? (ad.add m)=some (.int .i64 km))) (by kernel_rfl) ?_ (fun hHeld=>?_)
      (focus((try dsimp only);(first|exact⟨z2,e0,e1,c0,c1⟩|exact HK.out _ _ z3 hHeld)))
      refine QD (.f 0 (.f 1 (.f 2 (.f 3 (.f 4 (.f 5 (.f 6 (.f 7 (.o 8 (.f 9 (.f 10 (.f 11 (.f 12 (.f 13 (.f 14 (.f 15 (.f 16 (.f 17 (.o 18 (.f 19 (.f 20 (.f 21 .e)))))))))))))))))))))) ?_
      repeat' ((first|(refine QL (v:=?_) (hv:=?_) (h:=?_);rotate_left;(focus(first|(refine .inr ⟨by rfl,?_⟩;rfl)|(refine .inl ⟨by rfl,?_⟩;intro w hSw;(try dsimp only at hSw);(try simp only[D8,D4,List.getElem_cons_zero]);go_simp;try(with_reducible rfl)))))|(refine Qr (h:=?_))|(((refine Qx (h:=fun K hK=>?_))<;>((try simp only[D8,D4,D5]);go_simp))<;>((first|(go_at_call 269;refine(YF lo hi _ _).mono ?_;rintro e w9 ⟨rfl,z3⟩;rw[q1])|skip);refine hK.out _ _ ?_ (fun hHeld=>?_);(focus((try dsimp only);(first|exact⟨z2,e0,e1,c0,c1⟩|exact HK.out _ _ z3 hHeld)));clear hK K)))<;>(try simp only[Act.put,Nc,Nf,List.set_cons_succ]))
      all_goals (refine Qu ?_;refine wpAnyH_done (by kernel_rfl) ?_ _)
      have HH:=DY (z1.out.trans (hHeld.1.mono z1.out.size));go_wp2;go_ret;exact⟨9,rfl,by rw[z0.out];simp,HH.out⟩
     |true=>
      have z0:=DY (show ft=Ue lo hi km by rw[z8.out,q1];rfl);clear z8;cases q2:Ue lo hi km with
      |false=>
       refine wp_region_held_drew (S:=(fun V=>Below wr.heap.size wr V/\V.cell? ⟨w.heap.size,0,none⟩=some (.int .i64 lo)/\V.cell? ⟨w.heap.size,1,none⟩=some (.int .i64 hi)/\V.cell? ad=some (.int .i64 k0)/\V.cell? (ad.add m)=some (.int .i64 km))) (by kernel_rfl) ?_ (fun hHeld=>?_)
       (focus((try dsimp only);(first|exact⟨z2,e0,e1,c0,c1⟩|exact HK.out _ _ z3 hHeld)))
       refine QD (.f 0 (.f 1 (.f 2 (.f 3 (.f 4 (.f 5 (.f 6 (.f 7 (.o 8 (.f 9 (.f 10 (.f 11 (.f 12 (.f 13 (.f 14 (.f 15 (.f 16 (.f 17 (.o 18 (.f 19 (.f 20 (.f 21 .e)))))))))))))))))))))) ?_
       repeat' ((first|(refine QL (v:=?_) (hv:=?_) (h:=?_);rotate_left;(focus(first|(refine .inr ⟨by rfl,?_⟩;rfl)|(refine .inl ⟨by rfl,?_⟩;intro w hSw;(try dsimp only at hSw);(try simp only[D8,D4,D5]);go_simp;try(with_reducible rfl)))))|(refine Qr (h:=?_))|(((refine Qx (h:=fun K hK=>?_))<;>((try simp only[D8,D4,List.getElem_cons_zero]);go_simp))<;>((first|(go_at_call 269;refine(YF lo hi _ _).mono ?_;rintro e w9 ⟨rfl,z3⟩;first|rw[q1]|rw[q2])|skip);refine hK.out _ _ ?_ (fun hHeld=>?_);(focus((try dsimp only);(first|exact⟨z2,e0,e1,c0,c1⟩|exact HK.out _ _ z3 hHeld)));clear hK K)))<;>(try simp only[Act.put,Nc,List.set_cons_zero,List.set_cons_succ]))
       all_goals (refine Qu ?_;refine wpAnyH_done (by kernel_rfl) ?_ _)
       have HH:=DY (z1.out.trans (hHeld.1.mono z1.out.size));go_wp2;go_ret;exact⟨9,rfl,by rw[z0.out,q2];simp,HH.out⟩
      |true=>
       refine wp_region_held_drew (S:=(fun V=>Below wr.heap.size wr V/\V.cell? ⟨w.heap.size,0,none⟩=some (.int .i64 lo)/\V.cell? ⟨w.heap.size,1,none⟩=some (.int .i64 hi)/\V.cell? ad=some (.int .i64 k0)/\V.cell? (ad.add m)=some (.int .i64 km))) (by kernel_rfl) ?_ (fun hHeld=>?_)
       (focus((try dsimp only);(first|exact⟨z2,e0,e1,c0,c1⟩|exact HK.out _ _ z3 hHeld)))
       refine QD (.f 0 (.f 1 (.f 2 (.f 3 (.f 4 (.f 5 (.f 6 (.f 7 (.o 8 (.f 9 (.f 10 (.f 11 (.f 12 (.f 13 (.f 14 (.f 15 (.f 16 (.f 17 (.o 18 (.f 19 (.f 20 (.f 21 .e)))))))))))))))))))))) ?_
       repeat' ((first|(refine QL (v:=?_) (hv:=?_) (h:=?_);rotate_left;(focus(first|(refine .inr ⟨by rfl,?_⟩;rfl)|(refine .inl ⟨by rfl,?_⟩;intro w hSw;(try dsimp only at hSw);(try simp only[D8,D4,D5]);go_simp;try(with_reducible rfl)))))|(refine Qr (h:=?_))|(((refine Qx (h:=fun K hK=>?_))<;>((try simp only[D8,D4,List.getElem_cons_zero]);go_simp))<;>((first|(go_at_call 269;refine(YF lo hi _ _).mono ?_;rintro e w9 ⟨rfl,z3⟩;first|rw[q1]|rw[q2])|skip);refine hK.out _ _ ?_ (fun hHeld=>?_);(focus((try dsimp only);(first|exact⟨z2,e0,e1,c0,c1⟩|exact HK.out _ _ z3 hHeld)));clear hK K)))<;>(try simp only[Act.put,Nc,List.set_cons_zero,List.set_cons_succ]))
       all_goals (refine Qu ?_;refine wpAnyH_done (by kernel_rfl) ?_ _)
       have HH:=DY (z1.out.trans (hHeld.1.mono z1.out.size));go_wp2;go_ret;exact⟨0,rfl,by rw[z0.out,q2];simp,HH.out⟩
section
open Go.RowKit Go.Shelf
attribute [local go_sem] Oper.semAt_some
def VI(hi:Int)(keys:List Int)(r:Nat):Int:=if r=keys.length then hi else keys.getD r 0
def ZK(hi:Int)(keys:List Int)(i:Nat):Int×Int:=(keys.getD i 0,VI hi keys (i+1))
theorem RD(hi:Int):∀keys:List Int,(Xh hi keys).length=keys.length
 |[]=>rfl
 |[_]=>rfl
 |a::b::r=>by
  have:=RD hi (b::r);simp only[Xh,No] at*;omega
theorem G9(hi:Int):∀(keys:List Int) (i:Nat),i<keys.length->(Xh hi keys)[i]?=some (ZK hi keys i)
 |[],i,h=>by simp at h
 |[k],i,h=>by
  obtain rfl:i=0:=by simp at h;exact h
  rfl
 |a::b::r,i,h=>by
  cases i with
  |zero=>simp[Xh,ZK,VI]
  |succ i=>
   have ih:=G9 hi (b::r) i (by simpa using h);simp only[Xh,NF];rw[ih];simp[ZK,VI]
def YK(n r:Nat):List Nat:=(List.range (n-r)).map fun t=>n-1-t
theorem Gr{n j:Nat}(h:j<n):YK n j=YK n (j+1)++[j]:=by
 unfold YK;rw[show n-j=(n-(j+1))+1 by omega,NU,Ns]
 congr 1
 simp;omega
theorem Ke(n r:Nat):(YK n r).length=n-r:=by simp[YK]
def U1(p:Int×Int):Value:= .agg #[.int .i64 p.1, .int .i64 p.2]
theorem each1_in(n:Nat)(hn:1<=n)(lp b1 b2 n₀:Nat)(A:Option Addr)(c:Nat)(keys:List Int)(lo hi:Int)(hm:keys.length<=1000)(J Jx:List Nat->World->Prop)
  (hY:∀pre x W,J pre W->pre.length<keys.length->x<keys.length->YieldAt Fence.wide (n-1) prog lp #[.int .i64 (x:Int),U1 (ZK hi keys x)] W fun e W'=>
   (e= .returned (.bool true)/\J (pre++[x]) W'/\KpC n₀ b1 b2 W W')∨(e= .returned (.bool false)/\Jx (pre++[x]) W'))
  (W:World) (hb1:W.heap[b1]?=some (.cells #[.int .i64 lo, .int .i64 hi] 329)) (hb2:W.heap[b2]?=some (.cells #[.slice A keys.length c] 68)) (hr:Qh W n₀ A (iv keys)) (h0:J [] W):
  CallsIn Fence.wide n prog 270 #[.func (.yield lp) #[] #[], .pointer (some ⟨b1,0,none⟩), .pointer (some ⟨b2,0,none⟩)] W fun e W'=>(∃v,e= .returned v)/\
   ((∃ys,ys=YK keys.length 0/\J ys W')∨(∃pre,True/\Jx pre W')):=by
 refine callsIn_of_wp func270 rfl trivial ?_ rfl;simp only[ntmps270,List.size_toArray,No,NV,N9,La,NJ,NK,NR,NM,Np,NH];have c1:=Qa hb1 1 rfl;have c2:=Qa hb2 0 rfl;have z8:=DY hb2;have HR:=DY hr;have H0:=DY h0;have zc:=DY (show VI hi keys keys.length=hi by unfold VI;rw[if_pos rfl]);clear hb1 hb2 hr h0;gi_wp2;gi_loopw [4,5] (fun s4 s5 wr=>∃r:Nat,r<=keys.length/\s4= .int .i64 (VI hi keys r)/\s5= .int .i64 ((r:Int)-1)/\J (YK keys.length r) wr/\KpC n₀ b1 b2 W wr)
  (fun _ s5 _=>(intOf s5+1).toNat)
 case atStart=>exact⟨keys.length,Na _,by rw[zc.out],by first|rfl|go_num,by simpa[YK] using H0.out,KpC.refl _ _ _ _⟩
 case round=>
  clear c1 c2;obtain⟨r,hk,rfl,rfl,z9,z2⟩:=hrel;have z7:=Qa (z2.2.2.trans z8) 0 rfl;have HJ:=DY z9;have zb:=DY z2;clear z9;cases r with
  |zero=>
   rw[show((0:Nat):Int)-1= -1 by omega]
   clear z2;gi_wp2;go_end0
   exact⟨⟨_,rfl⟩, .inl ⟨_,rfl,HJ.out⟩⟩
  |succ j=>
   rw[show((j+1:Nat):Int)-1=(j:Int) by omega]
   obtain⟨ad,rfl,z3,z0⟩:=(HR.out.below z2.1) (by rw[QK];omega);have c3:=z0 j (.int .i64 (keys.getD j 0)) (by rw[Ub keys j (by omega)];simp[D9,D1 (show j<keys.length by omega)]);have HY:=DY (hY (YK keys.length (j+1)) j wr HJ (by rw[Ke];omega) (by omega));have z6:=HY.out;have HP:=DY (Gr (n:=keys.length) (j:=j) (by omega));have zd:=DY (show VI hi keys j=keys.getD j 0 by unfold VI;rw[if_neg (by omega)]);have zf:=DY (show ZK hi keys j=(keys.getD j 0,VI hi keys (j+1)) from rfl);rw[zf.out] at z6;obtain⟨fn,tmps,assign,body,hy,hR⟩:=z6;have i0:(0:Int)<=(j:Int):=by omega
   have i1:(j:Int)<(keys.length:Int):=by omega
   have i2:(j:Int)<=1000:=by omega
   have HHC:=Lib.hid z0;have z5:=DY z3;clear z0 z2 HY z3
   try dsimp only[U1] at hy hR
   generalize keys.getD j 0=x at*;generalize VI hi keys (j+1)=y at*;gi_wp2;refine hR.mono ?_;rintro e W3 (⟨rfl,ze,za⟩|⟨rfl,z4⟩)
   ·have z1:=zb.out.trans za;have c0':=Qa (z1.2.2.trans z8) 0 rfl;have c3':=(za.1.cell (p:=ad.add j) (by rw[YA];exact z5.out)).trans c3;clear c3 z7;gi_wp2;go_roundw
    case rel=>exact⟨j,by omega,by rw[zd.out],by first|rfl|go_num,by rw[HP.out];exact ze,z1⟩
    case measure=>simp[intOf]
   ·clear c3 z7;gi_wp2;refine bodyPost_ret (results_none rfl _ _ _) rfl ?_;exact⟨⟨_,rfl⟩, .inr ⟨_,trivial,z4⟩⟩
theorem each_in(n:Nat)(A:Option Addr)(m c:Nat)(lo hi:Int)(w:World):
  CallsIn Fence.wide n prog 259 #[.agg #[.int .i64 lo, .int .i64 hi], .slice A m c] w fun e w'=>e= .returned (.func (.func 270) #[] #[.pointer (some ⟨w.heap.size,0,none⟩), .pointer (some ⟨w.heap.size+1,0,none⟩)])/\w'=(w.alloc (.cells #[.int .i64 lo, .int .i64 hi] 329)).alloc (.cells #[.slice A m c] 68):=by
 refine callsIn_of_wp func259 rfl trivial ?_ rfl;simp only[ntmps259,List.size_toArray,No,NV,N9,La,NJ,NK,NR,NM,Np,NH];gi_wp2;go_ret;exact⟨rfl,rfl⟩
end
section
open Go.RowKit Go.Shelf
attribute [local go_sem] Oper.semAt_some
theorem Tryz.infoSpan:(prog.info? 329).map (fun i=>(i.zero,i.size,i.bytes))=some (some (.agg #[.int .i64 0, .int .i64 0]),2,16):=by kernel_rfl
def pcs:List (Int×Int)->List Value
 |[]=>[]
 |p::r=> .int .i64 p.1:: .int .i64 p.2::pcs r
theorem pcs_len(l:List (Int×Int)):(pcs l).length=l.length*2:=by
 induction l with
 |nil=>rfl
 |cons p r ih=>simp[pcs,ih];omega
theorem pcs_set(p:Int×Int):∀(l:List (Int×Int)) (i:Nat),((pcs l).set (i*2) (.int .i64 p.1)).set (i*2+1) (.int .i64 p.2)=pcs (l.set i p)
 |[],i=>by simp[pcs]
 |q::r,0=>by simp[pcs]
 |q::r,i+1=>by
  rw[show(i+1)*2=i*2+1+1 by omega]
  simp only[pcs,Ng];rw[<-pcs_set p r i]
theorem Rg:∀(l:List (Int×Int)) (i:Nat) (p:Int×Int),l[i]?=some p->(pcs l)[i*2]?=some (.int .i64 p.1)/\(pcs l)[i*2+1]?=some (.int .i64 p.2)
 |[],i,p,h=>by simp at h
 |q::r,0,p,h=>by simp at h;subst h;exact⟨rfl,rfl⟩
 |q::r,i+1,p,h=>by
  rw[show(i+1)*2=i*2+1+1 by omega]
  simp only[pcs,NF];exact Rg r i p (by simpa using h)
def UU(f:Nat->Int×Int)(n:Nat)(l:List Nat):List (Int×Int):=l.foldl (fun q i=>q.set i (f i)) (List.replicate n (0,0))
theorem fillP_snoc(f:Nat->Int×Int)(n:Nat)(l:List Nat)(i:Nat):UU f n (l++[i])=(UU f n l).set i (f i):=by simp[UU]
theorem fill_len(f:Nat->Int×Int):∀(l:List Nat) (q:List (Int×Int)),(l.foldl (fun q i=>q.set i (f i)) q).length=q.length
 |[],_=>rfl
 |i::l,q=>by rw[List.foldl_cons,fill_len f l,LK]
theorem EH(f:Nat->Int×Int)(n:Nat)(l:List Nat):(UU f n l).length=n:=by
 unfold UU;rw[fill_len];simp
theorem fill_at(f:Nat->Int×Int)(i:Nat):∀(l:List Nat) (q:List (Int×Int)),i<q.length->(q[i]?=some (f i)∨i∈l)->(l.foldl (fun q i=>q.set i (f i)) q)[i]?=some (f i)
 |[],q,hq,h=>by
  rcases h with h|h
  ·exact h
  ·cases h
 |j::l,q,hq,h=>by
  rw[List.foldl_cons];apply fill_at f i l
  ·rw[LK];exact hq
  ·by_cases hj:j=i
   ·subst hj;exact .inl (by rw[List.getElem?_set_self (by exact hq)])
   ·rcases h with h|h
    ·exact .inl (by rw[List.getElem?_set_ne hj];exact h)
    ·rcases Nt.1 h with h|h
     ·exact absurd h.symm hj
     ·exact .inr h
theorem fill_all(hi:Int)(keys:List Int):UU (ZK hi keys) keys.length (YK keys.length 0)=Xh hi keys:=by
 apply List.ext_getElem?
 intro i;rcases NC i keys.length with h|h
 ·rw[G9 hi keys i h];unfold UU;apply fill_at
  ·simpa using h
  ·right
   unfold YK;rw[LA];exact⟨keys.length-1-i,by simp;omega,by omega⟩
 ·rw[NI (by rw[EH];exact h),NI (by rw[RD];exact h)]
theorem made_spans(n:Nat):(madeCells (Value.agg #[.int .i64 0, .int .i64 0]).cells (n*2)).toList=pcs (List.replicate n (0,0)):=by
 apply List.ext_getElem?
 intro i;have h2:(madeCells (Value.agg #[.int .i64 0, .int .i64 0]).cells (n*2)).toList.length=n*2:=by simp[madeCells]
 have h3:(pcs (List.replicate n (0,0))).length=n*2:=by rw[pcs_len];simp
 rcases NC i (n*2) with h|h
 ·have e1:(madeCells (Value.agg #[.int .i64 0, .int .i64 0]).cells (n*2)).toList[i]?=some (.int .i64 0):=by
   rcases N1 i with hp|hp<;>simp[madeCells,Value.cells,h,hp]
  rw[e1];have hd:i / 2<n:=by omega
  obtain⟨g1,g2⟩:=Rg (List.replicate n (0,0)) (i / 2) (0,0) (by simp[hd]);rcases N1 i with hp|hp
  ·rw[show i / 2*2=i by omega] at g1
   exact g1.symm
  ·rw[show i / 2*2+1=i by omega] at g2
   exact g2.symm
 ·rw[NI (by rw[h2];exact h),NI (by rw[h3];exact h)]
abbrev Un(keys:List Int):={j:Nat // j<keys.length}
theorem each_stops(n:Nat)(hn:1<=n)(b1 b2 n₀:Nat)(A:Option Addr)(c:Nat)(keys:List Int)(lo hi:Int)(hm:keys.length<=1000)(w:World)(h1:b1<w.heap.size)(h2:b2<w.heap.size)(hn₀:n₀<=w.heap.size)
  (hb1:w.heap[b1]?=some (.cells #[.int .i64 lo, .int .i64 hi] 329)) (hb2:w.heap[b2]?=some (.cells #[.slice A keys.length c] 68)) (hr:Qh w n₀ A (iv keys)):
  SeqStopsK Fence.wide n prog 270 #[.pointer (some ⟨b1,0,none⟩), .pointer (some ⟨b2,0,none⟩)] (fun x:Un keys=>#[.int .i64 (x.1:Int),U1 (ZK hi keys x.1)]) (KpC n₀ b1 b2) (fun ys=>ys.map (·.1)=YK keys.length 0)
   (fun _=>True) keys.length w:=fun lp J Jx W hW hJ _ hY h0=>by
 refine(each1_in n hn lp b1 b2 n₀ A c keys lo hi hm (fun z1 W=>∃ps:List (Un keys),ps.map (·.1)=z1/\J ps W) (fun z1 W=>∃ps:List (Un keys),ps.map (·.1)=z1/\Jx ps W) ?_ W ((hW.block b1 h1).trans hb1) ((hW.block b2 h2).trans hb2) (hr.below (hW.mono hn₀)) ⟨[],rfl,h0⟩).mono ?_
 ·rintro _ x W1 ⟨ps,rfl,hp⟩ hl hx;rw[NN] at hl;have:=hY ps ⟨x,hx⟩ W1 hp hl;obtain⟨fn,z2,z0,z3,hy,hR⟩:=this;refine⟨fn,z2,z0,z3,hy,hR.mono ?_⟩;rintro e W3 (⟨rfl,h3,h4⟩|⟨rfl,h3⟩)
  ·exact .inl ⟨rfl,⟨_,by rw[Ns];rfl,h3⟩,h4⟩
  ·exact .inr ⟨rfl,_,by rw[Ns];rfl,h3⟩
 ·rintro e W1 ⟨hv,(⟨ys,z4,ps,rfl,hp⟩|⟨z1,-,ps,rfl,hp⟩)⟩
  ·exact⟨hv, .inl ⟨ps,z4,hp⟩⟩
  ·exact⟨hv, .inr ⟨ps,trivial,hp⟩⟩
end
def GivesFlat(bits:List (List Int))(w:World)(e:Ending)(w':World):Prop:=
 (JE bits=true/\∃A c b m,e= .returned (.tuple #[.slice A bits.flatten.length c, .map (some b), .bool true])/\w'.ownsRow w.heap.size 3 1 (.slice A bits.flatten.length c) bits.flatten.length (iv bits.flatten)/\ZG w' b m (Z6 bits.flatten)/\w.heap.size<=b/\Below w.heap.size w w')∨
 (JE bits=false/\e= .returned (.tuple #[.slice none 0 0, .map none, .bool false])/\Below w.heap.size w w')
theorem flat_any(A:Option Addr)(c:Nat)(bits:List (List Int))(hm:bits.length<=100000)(hf:bits.flatten.length<=100000)(w:World)(hr:Lists w w.heap.size A bits):
  Calls prog 195 #[.slice A bits.length c] w (GivesFlat bits w):=by
 obtain⟨ji,zT,zU,zO,zM⟩:=info_parts Tryz.infoInt21;have HR:=DY hr;have hmi:(bits.length:Int)<=100000:=by omega
 have zQ:=DY (fun(k:Nat) (hk:k<=bits.length)=>(show((bits.take k).flatten).length<=100000 from by
  have:((bits.take k).flatten).length+((bits.drop k).flatten).length=bits.flatten.length:=by rw[<-D7,<-List.flatten_append,N0]
  omega))
 have zN:=DY (Kd bits);clear hr;have zP:=run_makeMap (P:=prog) 333 w;have zC:=ZG.made w;have zw:=Qd w (.map #[] 0);obtain⟨n1,zD⟩:=DR (bits.length-1);have zB:=DY zD;clear zD;go_enter func195,ntmps195
 go_wp2_with fail
 clear zP;go_loopw [5,15] (fun s5 s15 wr=>∃(k N:Nat) (A5:Option Addr) (c5 m:Nat),k<=bits.length/\s5= .slice A5 N c5/\s15= .int .i64 k/\Hid (N=((bits.take k).flatten).length)/\Hid (m<=N)/\Hid (∀i,i<k->J5 bits.length i (bits.getD i [])=true/\VB (bits.getD i [])=true)/\Hid (wr.ownsRow w.heap.size 3 1 (.slice A5 N c5) N (iv (bits.take k).flatten))/\Hid (ZG wr w.heap.size m (Z6 (bits.take k).flatten))/\Hid (Below w.heap.size w wr)) (fun _ s15 _=>bits.length-(intOf s15).toNat)
 case atStart=>exact⟨0,0,none,0,0,by omega,rfl,rfl,DY rfl,DY (Na _),DY (fun i h=>by omega),DY (Nb _ _ _ _),DY zC,DY zw⟩
 case round=>
  clear zC zw;obtain⟨k,N,A5,c5,m,hk,rfl,rfl,HN,z8,z3,HO,HM,HB⟩:=hrel;by_cases hlt:k<bits.length
  ·have hci:(k:Int)<(bits.length:Int):=by omega
   obtain⟨ad,rfl,zc,zv⟩:=HR.out (by omega);obtain⟨Aj,cj,q0,r1⟩:=zv k _ (D1 hlt);have q1:=(HB.out.cell (p:=ad.add k) (by rw[YA];exact zc)).trans q0;clear q0 zc;have zs:bits[k]=bits.getD k []:=by rw[D9,D1 hlt];rfl
   rw[zs] at q1 r1;have zE:=DY (flat_next hlt);have z6:=DY (fun h=>formB_len hlt h);have z5:=DY (fun j hj h=>formB_elem (j:=j) hlt hj h);have z0:=DY (fun(h:J5 bits.length k (bits.getD k [])=true/\VB (bits.getD k [])=true) (i:Nat) (hi:i<k+1)=>(show J5 bits.length i (bits.getD i [])=true/\VB (bits.getD i [])=true from by
    rcases NC i k with h2|h2
    ·exact z3 i h2
    ·obtain rfl:i=k:=by omega
     exact h))
   have zh:=DY (zQ.out (k+1) (by omega));clear zv zs z3;generalize bits.getD k []=l at*;have zK:=DY (fun(V:World) (hb:Below w.heap.size w V)=>(show Qh V V.heap.size Aj (iv l)->True from fun _=>trivial));clear zK;obtain⟨lb,zg⟩:∃lb:Bool,lb=decide (k=n1):=⟨_,rfl⟩;have e1:IntKind.i64.wrap ((bits.length:Int)-1)=(n1:Int):=by rw[zB.out,Nv];omega
   have d1:((k:Int)==(n1:Int))=lb:=by
    rw[zg,Bool.eq_iff_iff,beq_iff_eq,decide_eq_true_iff];omega
   have zb:lb=true↔k+1=bits.length:=by rw[zg,decide_eq_true_iff];have:=zB.out;omega
   have zq:=DY zb;clear zg zb;by_cases c1:960<l.length
   ·have HF:=Lib.hid (z6.out (by unfold J5;exact decide_eq_false (by omega)));have i1:(960:Int)<(l.length:Int):=by omega
    clear z6 z5 z0;go_wp2;go_ret3
    exact .inr ⟨HF.out,rfl,HB.out⟩
   by_cases c2:l.length=0
   ·have HF:=Lib.hid (z6.out (by unfold J5;exact decide_eq_false (by omega)));have i1:decide (960<l.length)=false:=decide_eq_false c1;have i2:((l.length:Int)==0)=true:=by rw[beq_iff_eq];omega
    clear z6 z5 z0 c1;rw[c2] at q1;clear c2 i2 i1;go_wp2;go_ret3
    exact .inr ⟨HF.out,rfl,HB.out⟩
   have i1:decide (960<l.length)=false:=decide_eq_false c1;have i2:((l.length:Int)==0)=false:=by rw[beq_eq_false_iff_ne];omega
   by_cases c3:lb=false/\l.length<960
   ·obtain⟨rfl,c4⟩:=c3;have HF:=Lib.hid (z6.out (by
     unfold J5;refine decide_eq_false (fun h=>?_);have h5:¬k+1=bits.length:=fun h5=>by have:=zq.out.2 h5;cases this
     omega))
    have i3:(l.length:Int)<960:=by omega
    clear z6 z5 z0 c1 c2;go_wp2;go_ret3
    exact .inr ⟨HF.out,rfl,HB.out⟩
   have zJ:=DY (show J5 bits.length k l=true from by
    unfold J5;refine decide_eq_true ⟨by omega,c2,?_⟩
    cases lb with
    |true=>exact .inl (zq.out.1 rfl)
    |false=>exact .inr (by
     have:¬l.length<960:=fun h=>c3 ⟨rfl,h⟩
     omega))
   have ze:=DY (show decide ((960:Int)<(l.length:Int))=false from decide_eq_false (by omega));have zA:=DY (show lb=false->decide ((l.length:Int)<960)=false from fun h=>decide_eq_false (fun h2=>c3 ⟨h,by omega⟩));go_upto_region 7 with fail
   go_cut [41] (fun s41 wx=>s41= .bool false/\wx=wr)
   case first=>
    cases lb with
    |true=>
     clear z6 z5 z0 c2 c3;go_wp2;go_meet
     have hs:Value.bool (decide ((960:Int)<(l.length:Int)))= .bool false:=by rw[ze.out]
     first|exact⟨hs,rfl⟩|exact⟨rfl,rfl⟩
    |false=>
     have i3:decide (l.length<960)=false:=decide_eq_false (fun h=>c3 ⟨rfl,h⟩);have zL:=DY (zA.out rfl);clear z6 z5 z0 c2 c3;go_wp2;go_meet
     have hs:Value.bool (decide ((960:Int)<(l.length:Int))||decide ((l.length:Int)<960))= .bool false:=by rw[ze.out,zL.out];rfl
     exact⟨hs,rfl⟩
   case rest=>
    obtain⟨rfl,rfl⟩:=hcut;have zS:=Lib.hid (show l.length<=960 by omega);have zR:=Lib.hid (fun(V:World) (hb:Below w.heap.size w V)=>r1.below hb);clear c1 c2 c3 i1 i2 z6 e1 d1 r1 q1 zq ze zA;go_wp2_with fail
    go_loopw [5,44] (fun s5 s44 wq=>∃(j N2:Nat) (A5:Option Addr) (c5 m:Nat),j<=l.length/\s5= .slice A5 N2 c5/\s44= .int .i64 j/\Hid (N2=((bits.take k).flatten++l.take j).length)/\Hid (m<=N2)/\Hid (∀i,i<j->0<=l.getD i 0/\l.getD i 0<=3)/\Hid (wq.ownsRow w.heap.size 3 1 (.slice A5 N2 c5) N2 (iv ((bits.take k).flatten++l.take j)))/\Hid (ZG wq w.heap.size m (Z6 ((bits.take k).flatten++l.take j)))/\Hid (Below w.heap.size w wq)) (fun _ s44 _=>l.length-(intOf s44).toNat)
    case atStart=>exact⟨0,N,A5,c5,m,by omega,rfl,rfl,by rw[Lv,NZ];exact HN,z8,DY (fun i h=>by omega),by rw[Lv,NZ];exact HO,by rw[Lv,NZ];exact HM,HB⟩
    case round=>
     clear HN z8 HO HM HB;obtain⟨j,N2,A5,c5,m,hj,rfl,rfl,HN,z8,z3,HO,HM,HB⟩:=hrel;by_cases hlj:j<l.length
     ·have hcj:(j:Int)<(l.length:Int):=by omega
      obtain⟨a1,rfl,-,f1⟩:=(zR.out _ HB).at_ (k:=j) (by rw[QK];exact hlj);rw[iv_at hlj] at f1;have zx:=DY (take_next hlj);have z1:=DY (fun h=>z5.out j hlj h);have z4:=DY (fun(h:0<=l.getD j 0/\l.getD j 0<=3) (i:Nat) (hi:i<j+1)=>(show 0<=l.getD i 0/\l.getD i 0<=3 from by
       rcases NC i j with h2|h2
       ·exact z3 i h2
       ·obtain rfl:i=j:=by omega
        exact h))
      have zu:=DY (show N2<100000 from by
       rw[HN.out,D7,Ni];have:=zh.out;rw[zE.out,D7] at this;omega)
      clear z3;generalize l.getD j 0=x at*;by_cases hx0:x<0
      ·have HF:=DY (z1.out (.inl hx0));clear z1 z4 z5;go_wp2;go_ret3
       exact .inr ⟨HF.out,rfl,HB.out⟩
      by_cases hx3:3<x
      ·have HF:=DY (z1.out (.inr hx3));have d0:decide (x<0)=false:=decide_eq_false hx0;clear z1 z4 z5 hx0;go_wp2;go_ret3
       exact .inr ⟨HF.out,rfl,HB.out⟩
      have d0:decide (x<0)=false:=decide_eq_false hx0;have d3:decide (3<x)=false:=decide_eq_false hx3;have zk:=DY (z4.out ⟨by omega,by omega⟩);have hnl:=zu.out;have zp:=DY (show(bits.take k).flatten++l.take (j+1)=((bits.take k).flatten++l.take j)++[x] from by rw[zx.out,NQ]);have zm:=DY (openL_snoc ((bits.take k).flatten++l.take j) x);have zF:=DY (GN ((bits.take k).flatten++l.take j));clear z1 z4 hx0 hx3 zx zu;generalize (bits.take k).flatten++l.take j=out at*;go_upto_if 55 with fail
      go_cut [56,57,58] (fun _ _ _ wx=>∃m2,Hid (m2<=N2+1)/\Hid (wx.ownsRow w.heap.size 3 1 (.slice A5 N2 c5) N2 (iv out))/\Hid (ZG wx w.heap.size m2 (Z6 (out++[x])))/\Hid (Below w.heap.size w wx))
      case first=>
       by_cases h3:x=3
       ·subst h3;have zI:(Lit.int .i64 (N2:Int)).wf=true:=by simp[Lit.wf,IntKind.min,IntKind.max,IntKind.bits,IntKind.signed];omega
        have zH:(N2:Int)∉Z6 out:=by rw[HN.out];exact zF.out
        have zy:m<maxLen:=by have:=z8.out;simp only[maxLen];omega
        have z2:=DY (show m+1<=N2+1 by have:=z8.out;omega);have zl:=DY (show Z6 (out++[3])=Z6 out++[(N2:Int)] from by rw[zm.out,if_pos rfl,HN.out]);go_wp2_with (at_mapUpdate;refine KH rfl (.tmp 56) (.tmp 58) _ rfl HM.out zy (N2:Int) zH zI rfl rfl rfl ?_;intro w7 za z9;have zn:=DY (HO.out.kept z9 (.inr (HM.out.not_row HO.out).symm));have zf:=DY (HB.out.grown z9 HB.out.size (fun q hq=>by cases hq;exact Na _));have zo:Hid (ZG w7 w.heap.size (m+1) (Z6 (out++[3]))):=(by rw[zl.out];exact DY za);clear za z9 zy zH zI HM HO HB f1)
        go_meet
        exact⟨m+1,z2,zn,zo,zf⟩
       ·have d5:(x==3)=false:=by rw[beq_eq_false_iff_ne];exact h3
        have zl:=DY (show Z6 (out++[x])=Z6 out from by rw[zm.out,if_neg h3]);have z2:=DY (show m<=N2+1 by have:=z8.out;omega);clear h3 f1;go_wp2;go_meet
        exact⟨m,z2,HO,by rw[zl.out];exact HM,HB⟩
      case rest=>
       obtain⟨m2,z2,zG,zi,zd⟩:=hcut;have hl9:=zS.out;have zr:=zG.out.alloc (.cells #[.int .i64 x] 3);have zz:w.heap.size<=(wc.alloc (.cells #[.int .i64 x] 3)).heap.size:=by have:=zd.out.size;simp;omega
       clear f1 zm zF HM HO HB;go_wp2_with (at_builtin;refine QE _ rfl (.tmp 59) (.tmp 61) _ rfl w.heap.size 3 ji _ 8 underlying68 zT zU zO zM rfl _ N2 (iv out) rfl zr _ _ 1 1 [.int .i64 x] rfl rfl (Qh.new wc [.int .i64 x] 3 (0,0)) (by simp[Value.oneCell']) (by simp only[maxLen];omega) (by omega) zz ?_;intro A7 c7 w7 z7 z9 zt _;have zf:=DY ((zd.out.trans ((Qd wc (.cells #[.int .i64 x] 3)).mono zd.out.size)).trans zt);have zn:Hid (w7.ownsRow w.heap.size 3 1 (.slice A7 (N2+1) c7) (N2+1) (iv ((bits.take k).flatten++l.take (j+1)))):=(by rw[zp.out,Xb];exact DY z7);have zo:Hid (ZG w7 w.heap.size m2 (Z6 ((bits.take k).flatten++l.take (j+1)))):=(by rw[zp.out];exact DY ((zi.out.alloc (.cells #[.int .i64 x] 3)).kept z9 ((zi.out.alloc (.cells #[.int .i64 x] 3)).not_row zr)));clear z7 z9 zt zr zz zG zi zd)
       go_roundw
       case rel=>exact⟨j+1,N2+1,A7,c7,m2,by omega,rfl,by go_num,DY (by rw[zp.out,D7,<-HN.out];rfl),z2,zk,zn,zo,zf⟩
       case measure=>simp[intOf];omega
     ·obtain rfl:j=l.length:=by omega
      rw[Nw] at HN HO HM;rw[<-zE.out] at HN HO HM;have zj:=DY (z0.out ⟨zJ.out,okElems_of z3⟩);clear hlj hj z3 z5 z0;go_wp2;go_roundw
      case rel=>exact⟨k+1,N2,A5,c5,m,by omega,rfl,by go_num,HN,z8,zj,HO,HM,HB⟩
      case measure=>simp[intOf];omega
  ·obtain rfl:k=bits.length:=by omega
   have HF:=DY (zN.out.2 z3);rw[Nw] at HN HO HM;clear hlt hk z3;go_wp2;go_ret3
   refine .inl ⟨HF.out,A5,c5,w.heap.size,m,?_,?_,HM.out,Na _,HB.out⟩
   ·rw[<-HN.out];rfl
   ·rw[<-HN.out];exact HO.out
theorem ent_at{over:List Qv}{k:Nat}(h:k<over.length):over[k]?=some ⟨Zr over k,YN over k,(over.getD k zE).at_⟩:=by
 unfold Zr YN;rw[D9,D1 h]
 rfl
theorem Vj{xs:List Value}{er er':Int}(hx:xs=[])(he:er=er'){w w':World}{t:TypeId}(hb:Below w.heap.size w w'):Xl t xs er w (.returned (.tuple #[.slice none 0 0, .int .i64 er'])) w':=by
 subst hx he;exact⟨none,0,rfl,Nb _ _ _ _,hb⟩
theorem join_any(A:Option Addr)(c:Nat)(bits:List (List Int))(A2:Option Addr)(c2:Nat)(over:List Qv)(hm:bits.length<=100000)(hf:bits.flatten.length<=100000)(ho:over.length<=100000000)
  (hk:∀k,k<over.length->(Lit.int .i64 (Zr over k)).wf=true/\(YN over k).length<=reachBytes) (w:World) (hr:Lists w w.heap.size A bits) (he:Jz w w.heap.size A2 over):
  Calls prog 127 #[.slice A bits.length c, .slice A2 over.length c2] w (Xl 3 (iv (YY bits over)) (Yf bits over) w):=by
 have KF:=flat_any A c bits hm hf w hr;have HE:=DY he;have HK:=DY hk;have hmi:(over.length:Int)<=100000000:=by omega
 clear hr he hk hm;go_enter func127,ntmps127
 go_wp2_with fail
 refine KF.mono ?_;rintro e w1 (⟨zb,A1,c1,b,m,rfl,zd,z4,zH,za⟩|⟨zb,rfl,za⟩)
 case inr=>
  have HJ:=DY (join_form (over:=over) zb);have HB:=DY za;clear zb za KF;go_wp2;go_ret2
  exact Vj (by rw[HJ.out.2];rfl) HJ.out.1 HB
 have zC:=DY zb;have zn:=DY zd;have zP:=DY z4;have zF:=DY za;have zW:=DY zH;clear KF zb zd z4 za zH;obtain⟨N,hN⟩:=DR (bits.flatten.length);rw[<-hN] at zn ⊢;have HN:=DY hN;rw[<-hN] at hf;clear hN;go_wp2_with fail
 go_loopw [9,24] (fun s9 s24 wr=>∃k:Nat,k<=over.length/\s9= .int .i64 (Vg over k)/\s24= .int .i64 k/\Hid (Jr bits.flatten over k=0)/\Hid (wr.ownsRow w.heap.size 3 1 (.slice A1 N c1) N (iv (Rb bits.flatten over k)))/\Hid (ZG wr b m (YX bits.flatten over k))/\Hid (Below w.heap.size w wr)) (fun _ s24 _=>over.length-(intOf s24).toNat)
 case atStart=>exact⟨0,by omega,rfl,rfl,DY rfl,zn,zP,zF⟩
 case round=>
  clear zn zP zF;obtain⟨k,hk,rfl,rfl,z7,HO,HM,HB⟩:=hrel;by_cases hlt:k<over.length
  ·have hci:(k:Int)<(over.length:Int):=by omega
   obtain⟨bb,oo,rfl,-,hc⟩:=(HE.out.below HB) (by omega);obtain⟨e0,e1,e2⟩:=hc k _ (ent_at hlt);have z5:=DY (fun er h h2=>join_stop (er:=er) zC hlt z7 h h2);have zc:=DY (fun h=>errJ_next z7 h);have zs:=DY (fun h=>Ks (x:=Zr over k) z7 h);obtain⟨zw,zK⟩:=HK.out k hlt;have zU:=DY (show Rb bits.flatten over (k+1)=(Rb bits.flatten over k).set (Zr over k).toNat (rd1 countP (YN over k)) from rfl);have zV:=DY (show YX bits.flatten over (k+1)=(YX bits.flatten over k).filter (fun y=>decide (y≠Zr over k)) from rfl);have zR:=DY (show Vg over (k+1)=Zr over k from rfl);have q0:=DY (J4 bits.flatten over k);have zl:=DY (show Gm bits.flatten (Vg over k) (Zr over k) (YN over k)=if Zr over k<=Vg over k then 8 else if Zr over k∈Z6 bits.flatten then rdE [countP] (YN over k) else 13 from rfl);have zB:=DY (fun(V:World)=>Ru (YN over k) V zK);clear hc zK z7;generalize Gm bits.flatten (Vg over k) (Zr over k) (YN over k)=ee at*;generalize Vg over k=lk at*;generalize Zr over k=key at*;generalize YN over k=val at*;generalize (over.getD k zE).at_=at0 at*;obtain⟨w2,zk⟩:=DR (wr.alloc (.cells #[.int .i64 key, .string ⟨val.toArray⟩, .int .i64 at0] 146));have zx:w2.heap[wr.heap.size]?=some (.cells #[.int .i64 key, .string ⟨val.toArray⟩, .int .i64 at0] 146):=by rw[zk];exact heap_alloc_new wr _
   have zg:Below wr.heap.size wr w2:=by rw[zk];exact Qd wr _
   have zM:=DY (QT HO zg);have zh:=DY (HM.out.keep zg);have z9:=DY (HB.out.trans (zg.mono HB.out.size));have zZ:=DY HM.out.lt;have q1:=DY (fun q hq=>(HO.out.lt q hq).2);have zI:=DY (fun(V:World) (hb:Below w2.heap.size w2 V)=>Qe zx hb);go_upto_region 8 with fail
   rw[<-zk];obtain⟨p0,p1⟩:=DU zx;clear zk zg zx HO HM HB e0 e1 e2;have zY:=DY (show b<wr.heap.size from zZ.out);have z0:=zs.out;generalize YX bits.flatten over k=S at*;by_cases g1:key<=lk
   ·have HJ:=Lib.hid (z5.out 8 (by rw[zl.out,if_pos g1]) (by decide));clear z5 zc zs zl z0;go_wp2;go_ret2
    exact Vj (by rw[HJ.out.2];rfl) HJ.out.1 z9
   have d1:decide (key<=lk)=false:=decide_eq_false g1;replace z0:=z0 (by omega);have z2:=DY (show ee=if key∈Z6 bits.flatten then rdE [countP] val else 13 from by rw[zl.out,if_neg g1]);clear zl zs g1;by_cases g2:key∈Z6 bits.flatten
   case neg=>
    have HJ:=Lib.hid (z5.out 13 (by rw[z2.out,if_neg g2]) (by decide));have dm:decide (key∈S)=false:=decide_eq_false (fun h=>g2 (z0.1 h));clear z5 zc z2 z0 g2;go_wp2_with (at_lookup;refine VU rfl (.tmp 32) (.tmp 34) rfl zh.out key zw rfl rfl ?_)
    go_ret2
    exact Vj (by rw[HJ.out.2];rfl) HJ.out.1 z9
   have zv:=z0.2 g2;have dm:decide (key∈S)=true:=decide_eq_true zv;have zS:=DY zv;obtain⟨p,hp,zG,-⟩:=Eq.1 g2;have z1:=DY (show ee=rdE [countP] val from by rw[z2.out,if_pos g2]);have HP:=DY (show p<N/\key=(p:Int) from⟨by rw[HN.out];exact hp,zG⟩);clear z2 z0 g2 zv hp zG;go_wp2_with (at_lookup;refine VU rfl (.tmp 32) (.tmp 34) rfl zh.out key zw rfl rfl ?_)
   refine(zB.out _).mono ?_;rintro e w3 ⟨rfl,z8⟩;have z6:=DY (QT zM z8);have zq:=DY (zh.out.keep z8);have zm:=DY (z9.out.trans (z8.mono z9.out.size));have zf:=zI.out w3 z8;have zr:wr.heap.size<w3.heap.size:=Zv zf;clear zB zI p0 p1 z8 zM zh z9 dm;by_cases g3:rdE [countP] val=0
   case neg=>
    have HJ:=Lib.hid (z5.out _ z1 g3);have d3:(rdE [countP] val !=0)=true:=by rw[bne_iff_ne];exact g3
    clear z5 zc z1 zf;generalize rdE [countP] val=er at*;clear g3;go_wp2;go_ret2
    exact Vj (by rw[HJ.out.2];rfl) HJ.out.1 zm
   have zu:=DY (zc.out (by rw[z1.out];exact g3));rw[g3];clear z5 zc z1 g3;generalize rd1 countP val=y at*;obtain⟨zA,rfl⟩:=HP.out;obtain⟨g,rfl,-⟩:=Z9 z6 (by omega);have zQ:g<wr.heap.size:=q1.out g rfl;have z3:=z6.out.cellAt p (by omega);obtain⟨y0,zD⟩:∃y0:Int,(iv (Rb bits.flatten over k))[p]?=some (.int .i64 y0):=by
    refine⟨(Rb bits.flatten over k).getD p 0,?_⟩;rw[D1 (by rw[QK,J2,<-HN.out];exact zA),iv_at (by rw[J2,<-HN.out];exact zA)]
   rw[zD] at z3;have q2:=z6.out.frozenAt p;obtain⟨s1,s2⟩:=z6.out.stored p (.int .i64 y);have zJ:=zq.out.kept s2 (zq.out.not_row z6);have zz:=DY (zm.out.grown s2 zm.out.size (fun q hq=>by cases hq;exact(z6.out.lt g rfl).1));have zt:=(s2.block wr.heap.size zr (fun e=>by injection e with e;omega)).trans zf;have zy:=DY (show(iv (Rb bits.flatten over k)).set p (.int .i64 y)=iv (Rb bits.flatten over (k+1)) from by
    rw[zU.out,N3];simp[iv,List.map_set])
   have zp:=DY s1;have zo:=DY zJ;have p0:=Qa zf 0 rfl;have p4:=Qa zt 0 rfl;have i1:(p:Int)<(N:Int):=by omega
   have i0:(0:Int)<=(p:Int):=by omega
   have zL:=DY zt;have zO:=DY (show wr.heap.size<(w3.setCell ⟨g,p,none⟩ (.int .i64 y)).heap.size from by have:=s2.size;omega);clear zf zt s1 s2 zJ zD z6 zq zm zQ;go_wp2_with (at_delete;refine KX rfl (.tmp 51) (.tmp 53) rfl zo.out (p:Int) q0.out zS.out zw rfl rfl ?_;intro w5 ze zj;have q3:=DY (zp.out.kept zj (.inr (zo.out.not_row zp.out).symm));have p5:=Qa ((zj.block _ zO.out (fun e=>by injection e with e;have:=zY.out;omega)).trans zL.out) 0 rfl;have zT:=DY (zz.out.grown zj zz.out.size (fun q hq=>by cases hq;exact zW.out));have zX:=DY ze;clear ze zj p0 p4 z3 q2 zL zO zp zo zz)
   go_roundw
   case rel=>exact⟨k+1,by omega,by rw[zR.out],by go_num,zu,by rw[<-zy.out];exact q3,by rw[zV.out];exact zX,zT⟩
   case measure=>simp[intOf];omega
  ·obtain rfl:k=over.length:=by omega
   have zi:=DY (join_end zC z7);clear hlt hk z7;by_cases g1:(YX bits.flatten over over.length).length=0
   ·have HJ:=Lib.hid (zi.out.2 g1);have zN:=Lib.hid (J2 bits.flatten over over.length);clear zi;generalize YX bits.flatten over over.length=S at*;have dg:decide (0<S.length)=false:=decide_eq_false (by omega);go_wp2_with (refine JA rfl (.tmp 57) rfl HM.out rfl ?_)
    go_ret2
    refine⟨A1,c1,?_,?_,HB.out⟩
    ·rw[HJ.out.1,HJ.out.2,QK,zN.out,<-HN.out];rfl
    ·rw[HJ.out.2,QK,zN.out,<-HN.out];exact HO.out
   ·have HJ:=Lib.hid (zi.out.1 g1);clear zi;generalize YX bits.flatten over over.length=S at*;have dg:0<S.length:=by omega
    have dgi:(0:Int)<(S.length:Int):=by omega
    clear g1;go_wp2_with (refine JA rfl (.tmp 57) rfl HM.out rfl ?_)
    go_ret2
    exact Vj (by rw[HJ.out.2];rfl) HJ.out.1 HB
theorem joinV_len{bits:List (List Int)}{over:List Qv}{n:Nat}(h:bits.flatten.length<=n):(YY bits over).length<=n:=by
 unfold YY
 split
 ·rw[J2];exact h
 ·simp
end Go.Proofs.YtijcgllddnpmhaaGreatDoor
