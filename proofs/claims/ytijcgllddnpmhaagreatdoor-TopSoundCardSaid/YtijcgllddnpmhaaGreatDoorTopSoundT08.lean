/- TopSound: lemmas, part 8. -/
import Derived.Test.YtijcgllddnpmhaaGreatDoorTopSoundT06
import Derived.Test.YtijcgllddnpmhaaGreatDoorTopSoundT05
set_option maxRecDepth 100000
set_option maxHeartbeats 16000000
set_option linter.all false
namespace Go.Proofs.YtijcgllddnpmhaaGreatDoor
open Go.RowKit Go.Proofs.Tryz
section
attribute [local go_sem ↓] Go.wp_at_zero Go.wp_at_succ
theorem vdetail_any(a b c d:Int)(w:World)(ha:(Lit.int .i64 a).wf=true)(hb:(Lit.int .i64 b).wf=true)(hc:(Lit.int .i64 c).wf=true)(hd:(Lit.int .i64 d).wf=true):
  Calls prog 170 #[.agg #[.int .i64 a, .int .i64 b, .int .i64 c, .int .i64 d]] w fun e w'=>e= .returned (.string ⟨(XF (GQ a b c d)).toArray⟩)/\Below w.heap.size w w':=by
 have hp:=fun(A A2:Option Addr) (W:World) h h2=>VW A 4 A2 4 (GQ a b c d) W (by simp[GQ]) (EP a b c d) (by
  intro q hq;simp only[GQ,Nt,LC,or_false] at hq;rcases hq with rfl|rfl|rfl|rfl<;>assumption) h h2
 have hs:=Kw;generalize XF (GQ a b c d)=res at*;go_enter func170,ntmps170
 go_wp2_with fail
 have hB:=Qd w (.cells #[.int .i64 a, .int .i64 b, .int .i64 c, .int .i64 d] 196);have z4:w.heap.size<(w.alloc (.cells #[.int .i64 a, .int .i64 b, .int .i64 c, .int .i64 d] 196)).heap.size:=by simp
 have g0:(w.alloc (.cells #[.int .i64 a, .int .i64 b, .int .i64 c, .int .i64 d] 196)).cell? ⟨w.heap.size,0,none⟩=some (.int .i64 a):=by rw[Nk];rfl
 have g1:(w.alloc (.cells #[.int .i64 a, .int .i64 b, .int .i64 c, .int .i64 d] 196)).cell? ⟨w.heap.size,1,none⟩=some (.int .i64 b):=by rw[Nk];rfl
 have g2:(w.alloc (.cells #[.int .i64 a, .int .i64 b, .int .i64 c, .int .i64 d] 196)).cell? ⟨w.heap.size,2,none⟩=some (.int .i64 c):=by rw[Nk];rfl
 have g3:(w.alloc (.cells #[.int .i64 a, .int .i64 b, .int .i64 c, .int .i64 d] 196)).cell? ⟨w.heap.size,3,none⟩=some (.int .i64 d):=by rw[Nk];rfl
 generalize w.alloc (.cells #[.int .i64 a, .int .i64 b, .int .i64 c, .int .i64 d] 196)=W1 at*;generalize hf:w.heap.size=f at*;have HF:=DY hf;clear hf;go_region_held3 (fun w'=>w'.cell? ⟨f,0,none⟩=some (.int .i64 a)/\w'.cell? ⟨f,1,none⟩=some (.int .i64 b)/\w'.cell? ⟨f,2,none⟩=some (.int .i64 c)/\w'.cell? ⟨f,3,none⟩=some (.int .i64 d)) (first|go_keep|exact(And.imp (Qg z0) (And.imp (Qg z0) (And.imp (Qg z0) (Qg z0)))) (by assumption)|exact(And.imp (Qg z1) (And.imp (Qg z1) (And.imp (Qg z1) (Qg z1)))) (by assumption)) (first|(go_at_call 156;refine(hs _).mono ?_;rintro e w2 ⟨A,rfl,hr,z0⟩)|(go_at_call 103;refine(hp _ _ _ (by first|exact hr|exact(hr.below (Qd _ _)).more (by simp)) (by first|exact(Qh.new w2 (iv [a,b,c,d]) 3 (0,0)).more (by simp)|exact(((Qh.new W1 (iv [a,b,c,d]) 3 (0,0)).drew).below (z0.mono (by simp))).more (by have:=z0.size;simp at this ⊢;omega))).mono ?_;rintro e w3 ⟨rfl,z1⟩))
 all_goals
  have z2:Below W1.heap.size W1 w2:=by first|exact((D6 _ W1).drew).trans z0|exact Qb (Qd W1 (.cells #[.int .i64 a, .int .i64 b, .int .i64 c, .int .i64 d] 3)) (((D6 _ _).drew).trans z0)
  have z3:Below W1.heap.size W1 w3:=by first|exact Qb z2 z1|exact Qb (z2.trans ((Qd w2 _).mono z2.size)) z1
  have z5:Below f w w3:=hB.trans (z3.mono (Lk z4));clear z1 z0 hp hs hr z2 z3;go_wp2;go_ret;exact⟨rfl,by rw[HF.out];exact z5⟩
end
section
attribute [local go_sem ↓] Go.wp_at_zero Go.wp_at_succ
def mapIn(b t:Int):Bool:=decide (0<=b/\b<=65535/\0<=t/\t<=16777215)
def mapV(b t:Int):List UInt8:=if mapIn b t=true then XF [(XU,b*16777216+t)] else []
theorem or_add24(b t:Nat)(hb:b<65536)(ht:t<16777216):bits .or .i64 ((b:Int)*16777216) (t:Int)=(b:Int)*16777216+t:=by
 have h1:=i64_or_n (b*16777216) t (by omega) (by omega);have h2:=Nat.two_pow_add_eq_or_of_lt (i:=24) (show t<2 ^ 24 by omega) b;have h3:(2:Nat)^ 24*b=b*16777216:=by omega
 rw[h3] at h2;rw[<-h2] at h1;rw[LI,Int.natCast_add,LI] at h1;exact h1
theorem vmap_any(b t:Int)(w:World):Calls prog 56 #[.int .i64 b, .int .i64 t] w fun e w'=>e= .returned (.string ⟨(mapV b t).toArray⟩)/\Below w.heap.size w w':=by
 by_cases hin:mapIn b t=true
 ·have hin':0<=b/\b<=65535/\0<=t/\t<=16777215:=by simpa[mapIn] using hin
  obtain⟨h1,h2,h3,h4⟩:=hin';obtain⟨b,rfl⟩:=NB h1;obtain⟨t,rfl⟩:=NB h3;have hV:mapV b t=XF [(XU,(b:Int)*16777216+t)]:=by unfold mapV;rw[if_pos hin]
  have z0:=or_add24 b t (by omega) (by omega);have z1:(Lit.int .i64 ((b:Int)*16777216+t)).wf=true:=by simp[Lit.wf,IntKind.min,IntKind.max,IntKind.bits,IntKind.signed];omega
  have hp:=fun(A A2:Option Addr) (W:World) h h2=>VW A 1 A2 1 [(XU,(b:Int)*16777216+t)] W (by simp) (by simp[XU];exact good8 _ _ (by omega)) (by simpa using z1) h h2
  rw[hV];generalize XF [(XU,(b:Int)*16777216+t)]=res at*;have HP:=DY hp;have z3:=DY z0;clear hin hV z1 hp z0;have d1:decide ((b:Int)<0)=false:=decide_eq_false (by omega);have d2:decide ((65536:Int)<=(b:Int))=false:=decide_eq_false (by omega);have d3:decide ((t:Int)<0)=false:=decide_eq_false (by omega);have d4:decide ((16777215:Int)<(t:Int))=false:=decide_eq_false (by omega);go_enter func56,ntmps56
  go_wp2_with fail
  refine(Kt _).mono ?_;rintro e w1 ⟨A,rfl,hr,z2⟩;have z0:=z3.out;go_wp2_with fail
  refine(HP.out _ _ _ ((hr.below (Qd _ _)).more (by simp)) ((Qh.new w1 (iv [(b:Int)*16777216+t]) 3 (0,0)).more (by simp))).mono ?_;rintro e w2 ⟨rfl,hb⟩;have z4:=Qb (Qb z2 (Qd w1 (.cells #[.int .i64 ((b:Int)*16777216+t)] 3))) hb;clear HP hr hb z2;go_wp2;go_ret;exact⟨rfl,z4⟩
 ·have hV:mapV b t=[]:=by unfold mapV;rw[if_neg hin]
  rw[hV];clear hV;have z0:b<0∨65535<b∨t<0∨16777215<t:=by
   simp only[mapIn,decide_eq_true_eq] at hin;omega
  clear hin;by_cases c1:b<0
  ·clear z0;go_enter func56,ntmps56
   go_wp2;go_ret;exact⟨rfl,Below.refl _ _⟩
  by_cases c2:65535<b
  ·clear z0;go_enter func56,ntmps56
   go_wp2;go_ret;exact⟨rfl,Below.refl _ _⟩
  by_cases c3:t<0
  ·clear z0;go_enter func56,ntmps56
   go_wp2;go_ret;exact⟨rfl,Below.refl _ _⟩
  ·have c4:16777215<t:=by omega
   clear z0;go_enter func56,ntmps56
   go_wp2;go_ret;exact⟨rfl,Below.refl _ _⟩
end
section
attribute [local go_sem ↓] Go.wp_at_zero Go.wp_at_succ
def wds(ps:List XX):List Int:=ps.map (·.1)
def rdE(ps:List XX)(s:List UInt8):Int:=
 if(s.length:Int)=(wds ps).sum then(if X7 s 0 (wds ps)=0/\JG (ps.zip (X8 s 0 (wds ps)))=true then 0 else 2) else 7
def rdN(ps:List XX)(s:List UInt8):List Int:=if rdE ps s=0 then X8 s 0 (wds ps) else List.replicate ps.length 0
theorem Vv(ps:List XX)(s:List UInt8):(rdN ps s).length=ps.length:=by
 unfold rdN
 split
 ·rw[Om];simp[wds]
 ·simp
theorem wds_sum(ps:List XX)(h:∀p∈ps,Ja p):0<=(wds ps).sum/\(wds ps).sum<=8*ps.length:=by
 induction ps with
 |nil=>simp[wds]
 |cons p ps ih=>
  have h1:=OM (h p (by simp));have h2:=ih (fun q hq=>h q (by simp[hq]));simp only[wds,Lg,Lu,No] at*;omega
theorem Uv(n:Nat):(madeCells (Value.int .i64 0).cells (n*1)).toList=iv (List.replicate n 0):=by
 rw[NE];apply Lo
 ·simp[madeCells,iv]
 ·intro i h1 h2;simp[madeCells,iv,Value.cells,LT]
theorem unpB_wf(s:List UInt8)(ws:List Int):∀a,∀n∈X8 s a ws,(Lit.int .i64 n).wf=true:=by
 induction ws with
 |nil=>intro a n hn;simp[X8] at hn
 |cons x ws ih=>
  intro a n hn;simp only[X8,Nt] at hn;rcases hn with rfl|hn
  ·unfold ZZ
   split
   ·split
    ·rename_i h;simp[Lit.wf,IntKind.min,IntKind.max,IntKind.bits,IntKind.signed];omega
    ·rfl
   ·rfl
  ·exact ih _ n hn
theorem valB_cons(z:List (XX×Int))(h:∀q∈z,Ja q.1)(hz:0<z.length):∃x xs,VY z=x::xs:=by
 cases z with
 |nil=>simp at hz
 |cons q z=>
  have h1:=OM (h q (by simp));obtain⟨k,hk⟩:∃k,q.1.1.toNat=k+1:=⟨q.1.1.toNat-1,by omega⟩
  refine⟨UInt8.ofNat (q.2.toNat % 256),leb k (q.2.toNat / 256)++VY z,?_⟩;simp[VY,hk,leb]
theorem VV(A:Option Addr)(c:Nat)(ps:List XX)(s:List UInt8)(w:World)(hp0:0<ps.length)(hm:ps.length<=100)(hs:s.length<=reachBytes)(hg:∀p∈ps,Ja p)(h:ZI w w.heap.size A ps):
  Calls prog 124 #[.slice A ps.length c, .string ⟨s.toArray⟩] w (Xl 3 (iv (rdN ps s)) (rdE ps s) w):=by
 have mm:=hs;simp only[reachBytes] at mm;have HG:=DY hg;have HS:=DY (fun k=>wds_sum (ps.take k) (fun p hp=>hg p (Ln hp)));clear hg;obtain⟨i0,hi,zl,zi,zj⟩:=info_parts Tryz.infoInt;go_enter func124,ntmps124
 go_wp2_with fail
 go_loopw [6,7,14] (fun v a i wr=>∃(k:Nat) (z9:Int),k<=ps.length/\i= .int .i64 k/\a= .int .i64 z9/\z9=(wds (ps.take k)).sum/\wr.ownsRow w.heap.size 3 1 v k (iv (wds (ps.take k)))/\Below w.heap.size w wr) (fun _ _ i _=>ps.length-(intOf i).toNat)
 case atStart=>exact⟨0,0,by omega,rfl,rfl,by simp[wds],Nb _ _ _ _,D6 _ _⟩
 case round=>
  obtain⟨k,z9,hk,rfl,rfl,z7,z2,z5⟩:=hrel;have zd:=HS.out k;rw[<-z7,Ni] at zd;by_cases hlt:k<ps.length
  ·obtain⟨b,o,rfl,hbb,hc⟩:=h.below z5 (by omega);obtain⟨zE,DU,DV⟩:=hc k _ (D1 hlt);have zA:=OM (HG.out ps[k] (Nm hlt));have zn:wds (ps.take (k+1))=wds (ps.take k)++[ps[k].1]:=by rw[Xn ps k hlt];unfold wds;rw[Ns];rfl
   have HA:=DY (show(wds (ps.take (k+1))).sum=z9+ps[k].1 by rw[zn,LJ,<-z7];simp)
   have HN:=DY zn;clear hc zn z7;generalize ps[k]=q at*;obtain⟨pw,lo,hi'⟩:=q;simp only at zE DU DV zA HA HN;obtain⟨s1,s2⟩:=zd;obtain⟨p1,p2⟩:=zA;have zz:=Qh.new (wr.alloc (.cells #[.int .i64 pw, .int .i64 lo, .int .i64 hi'] 286)) (iv [pw]) 3 (0,0);rw[Nr] at zz;have zh:=z5.trans ((QG wr (.cells #[.int .i64 pw, .int .i64 lo, .int .i64 hi'] 286) (.cells (iv [pw]).toArray 3)).mono z5.size);have hbl:b<wr.heap.size:=by have:=z5.size;omega
   have zm:((wr.alloc (.cells #[.int .i64 pw, .int .i64 lo, .int .i64 hi'] 286)).alloc (.cells (iv [pw]).toArray 3)).cell? ⟨wr.heap.size,0,none⟩=some (.int .i64 pw):=by rw[Lm _ _ _ (by simp),Nk];rfl
   go_wp2_with (at_builtin;refine QE _ rfl (.tmp 18) (.tmp 21) _ rfl w.heap.size 3 i0 _ 8 underlying68 hi zl zi zj rfl _ k (iv (wds (ps.take k))) rfl ((z2.alloc _).alloc _) _ _ 1 1 (iv [pw]) rfl rfl zz (Jo _) (by simp only[maxLen];omega) (by omega) zh.size ?_;intro A' c' w2 z4 zt zD _;have hpw:w2.cell? ⟨wr.heap.size,0,none⟩=some (.int .i64 pw):=(cell_grown zt (p:=⟨wr.heap.size,0,none⟩) (by simp;omega) (fun e=>Nat.lt_irrefl _ (z2.lt _ e).2)).trans zm)
   go_roundw
   case rel=>exact⟨k+1,z9+pw,by omega,by go_num,by go_num,HA.out.symm,by rw[HN.out,Xb];exact z4,zh.trans zD⟩
   case measure=>simp[intOf];omega
  ·obtain rfl:k=ps.length:=by omega
   rw[Nw] at z7 z2;obtain⟨A1,c1,rfl⟩:=QN z2;have zq:(wds ps).length=ps.length:=by simp[wds]
   by_cases hlen:(s.length:Int)=z9
   ·obtain⟨cc,O,zy,hR,zx⟩:=GL (P:=prog) wr 9 22 5 s underlying9 underlying22 underlying5;have hW:=(Qh.of_own z2).drew;have zB:=hW.alloc (Na _) O;have hu:=Ry (some ⟨wr.heap.size,0,none⟩) cc s A1 c1 (wds ps) (wr.drew.alloc O) hs (by rw[zq];simp only[reachBytes];omega) (hR.more (by simp)) (zB.more (by simp));rw[zq] at hu;have zs:Below w.heap.size w (wr.drew.alloc O):=z5.trans ((((D6 _ wr).drew).trans (Qd wr.drew O)).mono z5.size);have zw:rdE ps s=if X7 s 0 (wds ps)=0/\JG (ps.zip (X8 s 0 (wds ps)))=true then 0 else 2:=by unfold rdE;rw[if_pos (by rw[<-z7];exact hlen)]
    have zg:=Lib.hid zw;have d1:((s.length:Int) !=z9)=false:=by simpa using hlen
    have HU:=Lib.hid hu;clear zw hlen z7 z2 hW zB hu hR;go_wp2_with fail
    refine HU.out.mono ?_;rintro e w3 ⟨A3,c3,rfl,z0,zo⟩;have za:=zs.trans (zo.mono zs.size);by_cases he:X7 s 0 (wds ps)=0
    ·have hv:Rz s 0 (wds ps)=X8 s 0 (wds ps):=by unfold Rz;rw[if_pos he]
     have zb:(X8 s 0 (wds ps)).length=ps.length:=by rw[Om,zq]
     have zu:=unpB_wf s (wds ps) 0;have zv:rdE ps s=0->rdN ps s=X8 s 0 (wds ps):=fun h0=>by unfold rdN;rw[if_pos h0]
     rw[hv,QK,zb] at z0;rw[hv,QK,zb,he];have zf:rdE ps s=if JG (ps.zip (X8 s 0 (wds ps)))=true then 0 else 2:=by rw[zg.out];simp[he]
     clear zg HU he hv d1 zy zx zo;generalize X8 s 0 (wds ps)=un at*;have ze:(ps.zip un).length=ps.length:=by rw[List.length_zip,zb,Nat.min_self]
     have hz1':(ps.zip un).map (·.1)=ps:=List.map_fst_zip (by omega);have hz2':(ps.zip un).map (·.2)=un:=List.map_snd_zip (by omega);have zk:∀q∈ps.zip un,Ja q.1:=fun q hq=>HG.out q.1 (List.of_mem_zip hq).1
     have z3:=VW A c A3 c3 (ps.zip un) w3 (by rw[ze];exact hm) zk (fun q hq=>zu q.2 (List.of_mem_zip hq).2) (by rw[hz1'];exact(h.below za).more za.size) (by rw[hz2'];exact Qh.of_own z0);rw[ze] at z3;have zF:=DY (Q7 z0 zs.size);by_cases hvz:JG (ps.zip un)=true
     ·obtain⟨x,xs,z8⟩:=valB_cons (ps.zip un) zk (by rw[ze];exact hp0);have hV:XF (ps.zip un)=x::xs:=by unfold XF;rw[if_pos hvz,z8]
      have hE:rdE ps s=0:=by rw[zf,if_pos hvz]
      have HE:=DY hE;have HN:=DY (zv hE);have zC:=DY zb;rw[hV] at z3;clear zf zv hE hV z8 hvz zk hz1' hz2' ze zu z0 zb;go_wp2_with fail
      refine z3.mono ?_;rintro e w4 ⟨rfl,zc⟩;have z6:=za.trans (zc.mono za.size);have HK:=DY (QT zF zc);clear z3 zc;go_wp2;go_ret2
      exact⟨A3,c3,by rw[HE.out,HN.out,QK,zC.out];rfl,by rw[HN.out,QK,zC.out];exact HK.out,z6⟩
     ·have hV:XF (ps.zip un)=[]:=by unfold XF;rw[if_neg hvz]
      have hE:rdE ps s=2:=by rw[zf,if_neg hvz]
      have hN:rdN ps s=List.replicate ps.length 0:=by unfold rdN;rw[hE,if_neg (by decide)]
      have HE:=DY hE;have HN:=DY hN;rw[hV] at z3;clear zf zv hE hN hV hvz zk hz1' hz2' ze zu z0 zb;go_wp2_with fail
      refine z3.mono ?_;rintro e w4 ⟨rfl,zc⟩;have z6:=za.trans (zc.mono za.size);clear z3 zc;go_wp2_with (at_make;refine wpList_make_full _ rfl (.tmp 51) (.tmp 51) _ rfl w.heap.size 3 i0 _ 1 underlying68 hi zl zi .i64 .i64 ps.length ps.length ps.length rfl rfl rfl rfl (by rw[zj];omega) (by simp only[maxLen];omega) z6.size ?_;intro w5 z1 zp)
      rw[Uv] at z1;have zr:Below w.heap.size w w5:=z6.trans ((D6 _ _).grown zp z6.size (fun k hk=>by cases hk));go_ret2
      exact⟨_,_,by rw[HE.out,HN.out,QK,Nn];rfl,by rw[HN.out,QK,Nn];exact z1,zr⟩
    ·have hV:Rz s 0 (wds ps)=[]:=by unfold Rz;rw[if_neg he]
     have hE:rdE ps s=2:=by rw[zg.out,if_neg (fun h=>he h.1)]
     have hN:rdN ps s=List.replicate ps.length 0:=by unfold rdN;rw[hE,if_neg (by decide)]
     have HE:=DY hE;have HN:=DY hN;have d2:(X7 s 0 (wds ps) !=0)=true:=by simpa using he
     have z6:=za;rw[hV,QK,NV];clear hE hN hV he zg HU z0 zo d1 zy zx;generalize X7 s 0 (wds ps)=ue at*;go_wp2_with (at_make;refine wpList_make_full _ rfl (.tmp 51) (.tmp 51) _ rfl w.heap.size 3 i0 _ 1 underlying68 hi zl zi .i64 .i64 ps.length ps.length ps.length rfl rfl rfl rfl (by rw[zj];omega) (by simp only[maxLen];omega) z6.size ?_;intro w5 z1 zp)
     rw[Uv] at z1;have zr:Below w.heap.size w w5:=z6.trans ((D6 _ _).grown zp z6.size (fun k hk=>by cases hk));go_ret2
     exact⟨_,_,by rw[HE.out,HN.out,QK,Nn];rfl,by rw[HN.out,QK,Nn];exact z1,zr⟩
   ·have hE:rdE ps s=7:=by unfold rdE;rw[if_neg (by rw[<-z7];exact hlen)]
    have hN:rdN ps s=List.replicate ps.length 0:=by unfold rdN;rw[hE,if_neg (by decide)]
    have HE:=Lib.hid hE;have HN:=Lib.hid hN;have d1:((s.length:Int) !=z9)=true:=by simpa using hlen
    clear hE hN hlen z7 z2;go_wp2_with (at_make;refine wpList_make_full _ rfl (.tmp 33) (.tmp 33) _ rfl w.heap.size 3 i0 _ 1 underlying68 hi zl zi .i64 .i64 ps.length ps.length ps.length rfl rfl rfl rfl (by rw[zj];omega) (by simp only[maxLen];omega) z5.size ?_;intro w2 z4 zt)
    rw[Uv] at z4;have zh:Below w.heap.size w w2:=z5.trans ((D6 _ _).grown zt z5.size (fun k hk=>by cases hk));go_ret2
    exact⟨_,_,by rw[HE.out,HN.out,QK,Nn];rfl,by rw[HN.out,QK,Nn];exact z4,zh⟩
end
section
attribute [local go_sem ↓] Go.wp_at_zero Go.wp_at_succ
theorem shape_iff(l:List UInt8)(h:l.length=244):ZX l=true↔(n0 l:Int)<=1/\QV (n1 l) (lfN l)≠0/\(n2 l:Int)<=(ZE (n1 l) (lfN l):Int)/\(n3 l:Int)=QV (n1 l) (lfN l)/\(n4 l:Int)=(ZE (n1 l) (lfN l):Int)/\(n5 l:Int)=0/\(lfN l=true∨0<(n2 l:Int)):=by
 have hc:=Ok (n1 l) (lfN l);have hw:QV (n1 l) (lfN l)=(wB l:Int):=by unfold wB;omega
 have hm:ZE (n1 l) (lfN l)=mB l:=rfl;unfold ZX Dt;rw[decide_eq_true_iff,decide_eq_true_iff,hw,hm,h];constructor
 ·rintro⟨⟨_,h1,h2⟩,h3,h4,h5,h6,h7⟩;exact⟨by omega,h2,by omega,by omega,by omega,by omega,h7.imp id (by omega)⟩
 ·rintro⟨h1,h2,h3,h4,h5,h6,h7⟩;exact⟨⟨rfl,by omega,h2⟩,by omega,by omega,by omega,by omega,h7.imp id (by omega)⟩
theorem shape_len(l:List UInt8)(h:l.length≠244):ZX l=false:=by
 unfold ZX Dt;rw[decide_eq_false_iff_not,decide_eq_true_iff];exact fun h1=>h h1.1.1
theorem Xr{fn:Func}{p u v:Tmp}{ty:TypeId}(h:fn.results=#[.cell p ty, .tmp u, .tmp v])(tmps:Array Value)(P:Program)(w:World):
  (results fn tmps).run P w=
   ((asAddr (tmps.getD p undef)).run P w).andThen fun a w₁=>((loadVar ty a).run P w₁).andThen fun x w₂=> .ok (.tuple #[x,tmps.getD u undef,tmps.getD v undef]) w₂:=by
 simp only[results,h];simp[Sem.run_bind,Result.andThen]
theorem Zf{f:Nat}{w w1:World}(h:Below f w w1)(a b c d:Value):Below f w ((((w1.setCell ⟨f,0,none⟩ a).setCell ⟨f,1,none⟩ b).setCell ⟨f,2,none⟩ c).setCell ⟨f,3,none⟩ d):=
 (((h.setCell (p:=⟨f,0,none⟩) (Na f) _).setCell (p:=⟨f,1,none⟩) (Na f) _).setCell (p:=⟨f,2,none⟩) (Na f) _).setCell (p:=⟨f,3,none⟩) (Na f) _
def GivesS(l:List UInt8)(w:World)(e:Ending)(w':World):Prop:=
 ∃(t:Int) (lf:Bool) (k:Int),e= .returned (.tuple #[.agg #[.int .i64 t, .bool lf, .slice none 0 0, .slice none 0 0], .int .i64 k, .bool (ZX l)])/\(ZX l=true->t=n1 l/\lf=lfN l/\k=n2 l)/\Below w.heap.size w w'
theorem shape_any(A:Option Addr)(c:Nat)(l:List UInt8)(w:World)(hm:l.length<=reachBytes)(h:Qh w w.heap.size A (bv l)):
  Calls prog 159 #[.slice A l.length c] w (GivesS l w):=by
 have HM:=DY hm;simp only[reachBytes] at hm;by_cases hl:l.length=244
 case neg=>
  have HS:=DY (shape_len l hl);have zb:=Qd w (.cells #[.int .i64 0, .bool false, .slice none 0 0, .slice none 0 0] 113);have z5:=heap_alloc_new w (.cells #[.int .i64 0, .bool false, .slice none 0 0, .slice none 0 0] 113);obtain⟨q0,q1,q2,q3⟩:=DW z5;have z0:=Qf z5 0;have z1:=Qf z5 1;have z2:=Qf z5 2;have z3:=Qf z5 3;have d1:((l.length:Int) !=244)=true:=by rw[bne_iff_ne];omega
  clear hl z5;go_enter func159,ntmps159
  go_upto_region 1 with fail
  generalize hw1:w.alloc (.cells #[.int .i64 0, .bool false, .slice none 0 0, .slice none 0 0] 113)=w1 at*;clear hw1;go_wp2
  try simp only[Exit.inBlock,Exit.then]
  refine bodyPost_ret (v:= .tuple #[.agg #[.int .i64 0, .bool false, .slice none 0 0, .slice none 0 0], .int .i64 0, .bool false]) (by rw[Xr rfl];go_simp) rfl ?_;refine⟨0,false,0,?_,?_,Zf zb _ _ _ _⟩
  ·rw[HS.out]
  ·intro h;rw[HS.out] at h;cases h
 obtain⟨u1,u2,u3⟩:=unp6 l (by omega);have HI:=DY (shape_iff l hl);have zj:=DY (show∀y:Int,y=(n0 l:Int)->lfN l=(y==1) from fun y hy=>by
  subst hy;unfold lfN;rw[Bool.eq_iff_iff,decide_eq_true_iff,beq_iff_eq];omega)
 have HW:=DY (fun W=>Yn (n1 l) (lfN l) W);have HX:=DY (fun W=>YZ (n1 l) (lfN l) W);have KU:=fun(V:World) (hb:Below w.heap.size w V)=>Ry A c l (some ⟨V.heap.size,0,none⟩) 6 [1,1,2,2,2,4] (V.alloc (.cells #[.int .i64 1, .int .i64 1, .int .i64 2, .int .i64 2, .int .i64 2, .int .i64 4] 3)) HM.out (by decide) ((h.ext hb).ext (Qd V _)) (by
  have:=Qh.new V [.int .i64 1, .int .i64 1, .int .i64 2, .int .i64 2, .int .i64 2, .int .i64 4] 3 (0,0);exact(show Qh _ (V.heap.size+1) _ (iv [1,1,2,2,2,4]) from this).more (by simp))
 rw[u1,u2] at KU;have HR:Hid (ZX l=true->(n1 l:Int)=n1 l/\lfN l=lfN l/\(n2 l:Int)=n2 l):=DY fun _=>⟨rfl,rfl,rfl⟩
 have HG:=DY (show∀(e:Ending) (w':World),(∃(t:Int) (lf:Bool) (k:Int),e= .returned (.tuple #[.agg #[.int .i64 t, .bool lf, .slice none 0 0, .slice none 0 0], .int .i64 k, .bool (ZX l)])/\(ZX l=true->t=n1 l/\lf=lfN l/\k=n2 l)/\Below w.heap.size w w')->GivesS l w e w' from fun _ _ h=>h)
 clear HR;generalize QV (n1 l) (lfN l)=W at*;generalize ZE (n1 l) (lfN l)=M at*;generalize hlf:lfN l=lf at*;have z9:=DY (zj.out _ rfl);clear zj hlf;generalize ZX l=ok at*;obtain⟨y0,zk⟩:=DR ((n0 l:Int));obtain⟨y1,zi⟩:=DR ((n1 l:Int));obtain⟨y2,zo⟩:=DR ((n2 l:Int));obtain⟨y3,zh⟩:=DR ((n3 l:Int));obtain⟨y4,zm⟩:=DR ((n4 l:Int));obtain⟨y5,zs⟩:=DR ((n5 l:Int));rw[<-zk] at HI KU z9;rw[<-zi] at HW HX KU HG;rw[<-zo] at HI KU HG;rw[<-zh] at HI KU;rw[<-zm] at HI KU;rw[<-zs] at HI KU;have hz2:0<=y2:=by omega
 clear zk zi zo zh zm zs u1 u2 u3;obtain⟨Mi,zr⟩:=DR ((M:Int));rw[<-zr] at HX HI;clear zr;have zb:=DY (Qd w (.cells #[.int .i64 0, .bool false, .slice none 0 0, .slice none 0 0] 113));have zp:=DY (heap_alloc_new w (.cells #[.int .i64 0, .bool false, .slice none 0 0, .slice none 0 0] 113));have zl:(w.alloc (.cells #[.int .i64 0, .bool false, .slice none 0 0, .slice none 0 0] 113)).heap.size=w.heap.size+1:=by simp
 have zn:=DY zl;have K1:=KU _ zb;have hl2:(l.length:Int)=244:=by omega
 clear zl KU h hm hl;go_enter func159,ntmps159
 go_upto_region 1 with fail
 generalize w.alloc (.cells #[.int .i64 0, .bool false, .slice none 0 0, .slice none 0 0] 113)=w1 at*;go_wp2_with fail
 refine K1.mono ?_;rintro e w3 ⟨A3,c3,rfl,z7,hb⟩;rw[QK,show [y0,y1,y2,y3,y4,y5].length=6 from rfl] at z7
 rw[QK,show [y0,y1,y2,y3,y4,y5].length=6 from rfl]
 obtain⟨g,rfl,hc⟩:=Z9 z7 (by omega);have k0:=hc 0 _ rfl;have k1:=hc 1 _ rfl;have k2:=hc 2 _ rfl;have k3:=hc 3 _ rfl;have k4:=hc 4 _ rfl;have k5:=hc 5 _ rfl;have zx:=DY (Qb zb (Qb (Qd w1 _) hb));have zu:=DY (Qe (Qe zp (Qd w1 _)) hb);have zg:g<w3.heap.size:=by
  obtain⟨ad,e,zy,_⟩:=(Qh.of_own z7).at_ (k:=0) (by simp[iv])
  injection e with e
  subst e;exact zy
 have zv:w.heap.size<g:=by
  have hsz:(w1.alloc (.cells #[.int .i64 1, .int .i64 1, .int .i64 2, .int .i64 2, .int .i64 2, .int .i64 4] 3)).heap.size=w.heap.size+1+1:=by rw[<-zn.out];simp
  rcases z7.2 with⟨hv,hz⟩|⟨g',cap,cur,hv,zv,_,_,_⟩
  ·omega
  ·injection hv with e1
   injection e1 with e1
   injection e1 with e1
   omega
 have zf:w.heap.size<w3.heap.size:=by omega
 have n1:¬g=w.heap.size:=by omega
 have n2:¬w.heap.size=g:=by omega
 have n3:¬w3.heap.size=w.heap.size:=by omega
 have n4:¬w.heap.size=w3.heap.size:=by omega
 have zc:=DY (fun(o:Obj) j=>Lm w3 o ⟨g,j,none⟩ zg);have m0:=((zc.out (.cells #[.int .i64 0, .bool false, .slice none 0 0, .slice none 0 0] 113) 0).trans k0);have m1:=((zc.out (.cells #[.int .i64 0, .bool false, .slice none 0 0, .slice none 0 0] 113) 1).trans k1);clear K1 hc z7 hb zp zb zg zv zf zn;go_upto_region 4 with fail
 go_region
 rw[<-z9.out];have ze:=DY (Qb zx (Qd w3 (.cells #[.int .i64 y1, .bool lf, .slice none 0 0, .slice none 0 0] 113)).drew);have zq:(w3.alloc (.cells #[.int .i64 y1, .bool lf, .slice none 0 0, .slice none 0 0] 113)).drew.heap[w3.heap.size]?=some (.cells #[.int .i64 y1, .bool lf, .slice none 0 0, .slice none 0 0] 113):=heap_alloc_new w3 _;have z8:=DY (Qe zu (Qd w3 (.cells #[.int .i64 y1, .bool lf, .slice none 0 0, .slice none 0 0] 113)).drew);have za:=fun(i:Nat)=>zc.out (.cells #[.int .i64 y1, .bool lf, .slice none 0 0, .slice none 0 0] 113) i
 have k0:=(show(w3.alloc (.cells #[.int .i64 y1, .bool lf, .slice none 0 0, .slice none 0 0] 113)).drew.cell? ⟨g,0,none⟩=_ from(za 0).trans k0);have k1:=(show(w3.alloc (.cells #[.int .i64 y1, .bool lf, .slice none 0 0, .slice none 0 0] 113)).drew.cell? ⟨g,1,none⟩=_ from(za 1).trans k1);have k2:=(show(w3.alloc (.cells #[.int .i64 y1, .bool lf, .slice none 0 0, .slice none 0 0] 113)).drew.cell? ⟨g,2,none⟩=_ from(za 2).trans k2);have k3:=(show(w3.alloc (.cells #[.int .i64 y1, .bool lf, .slice none 0 0, .slice none 0 0] 113)).drew.cell? ⟨g,3,none⟩=_ from(za 3).trans k3);have k4:=(show(w3.alloc (.cells #[.int .i64 y1, .bool lf, .slice none 0 0, .slice none 0 0] 113)).drew.cell? ⟨g,4,none⟩=_ from(za 4).trans k4);have k5:=(show(w3.alloc (.cells #[.int .i64 y1, .bool lf, .slice none 0 0, .slice none 0 0] 113)).drew.cell? ⟨g,5,none⟩=_ from(za 5).trans k5);clear m0 m1 za zc z9 zu zx;generalize (w3.alloc (.cells #[.int .i64 y1, .bool lf, .slice none 0 0, .slice none 0 0] 113)).drew=w4 at*;obtain⟨p0,p1,p2,p3⟩:=DW zq;have q0:=Qa z8 0 rfl;have q1:=Qa z8 1 rfl;have q2:=Qa z8 2 rfl;have q3:=Qa z8 3 rfl;have z0:=Qf z8 0;have z1:=Qf z8 1;have z2:=Qf z8 2;have z3:=Qf z8 3;clear zq z8;generalize w3.heap.size=b4 at*;by_cases h1:1<y0
 ·have e:ok=false:=by
   cases ok with
   |false=>rfl
   |true=>exact absurd (HI.out.1 (by first|rfl|trivial)).1 (by omega)
  subst e;clear HI HW HX;go_wp2
  try simp only[Exit.inBlock,Exit.then]
  refine bodyPost_ret (v:= .tuple #[.agg #[.int .i64 0, .bool false, .slice none 0 0, .slice none 0 0], .int .i64 0, .bool false]) (by rw[Xr rfl];go_simp) rfl ?_;exact HG.out _ _ ⟨0,false,0,rfl,(fun h=>by cases h),Zf ze _ _ _ _⟩
 have d1:decide (1<y0)=false:=decide_eq_false h1;by_cases h2:W=0
 ·have e:ok=false:=by
   cases ok with
   |false=>rfl
   |true=>exact absurd h2 (HI.out.1 (by first|rfl|trivial)).2.1
  subst e;clear HI HX h1;go_wp2_with fail
  refine(HW.out _).mono ?_;rintro e w5 ⟨rfl,rfl⟩;rw[h2];clear HW h2;go_wp2
  try simp only[Exit.inBlock,Exit.then]
  refine bodyPost_ret (v:= .tuple #[.agg #[.int .i64 0, .bool false, .slice none 0 0, .slice none 0 0], .int .i64 0, .bool false]) (by rw[Xr rfl];go_simp) rfl ?_;exact HG.out _ _ ⟨0,false,0,rfl,(fun h=>by cases h),Zf ze _ _ _ _⟩
 have d2:(W==0)=false:=by rw[beq_eq_false_iff_ne];exact h2
 have zd:=DY (DZ h1 h2);clear h1 h2;go_wp2_with fail
 refine(HW.out _).mono ?_;rintro e w5 ⟨rfl,rfl⟩;have zw:=fun m=>(show Calls prog 160 #[.int .i64 y1, .bool lf] (w4.drewN m) fun e w'=>e= .returned (.int .i64 W)/\w'=w4.drewN m from(HW.out _).mono fun e w' ⟨h1,h2⟩=>⟨h1,h2.symm⟩)
 have zt:=fun m=>(show Calls prog 161 #[.int .i64 y1, .bool lf] (w4.drewN m) fun e w'=>e= .returned (.int .i64 Mi)/\w'=w4.drewN m from(HX.out _).mono fun e w' ⟨h1,h2⟩=>⟨h1,h2.symm⟩)
 clear HW HX;go_upto_region 7 with fail
 go_quiet (first|(go_at_call 160;exact Calls.quiet_of_same (zw _))|(go_at_call 161;exact Calls.quiet_of_same (zt _)))
 clear zw zt;go_upto_region 8 with fail
 go_cut [10] (fun s10 wx=>s10= .bool ok/\∃m,wx=w4.drewN m)
 case first=>
  have z6:¬(y2<=Mi/\y3=W/\y4=Mi/\y5=0/\(lf=true∨0<y2))->ok=false:=fun h=>by
   cases ok with
   |false=>rfl
   |true=>exact absurd (HI.out.1 (by first|rfl|trivial)).2.2 h
  have z4:(y2<=Mi/\y3=W/\y4=Mi/\y5=0/\(lf=true∨0<y2))->ok=true:=fun h=>HI.out.2 ⟨by have:=zd.out.1;omega,zd.out.2,h⟩
  clear HI zd;by_cases c1:y2<=Mi
  case neg=>
   have e:=z6 (fun h=>c1 h.1);have d3:decide (y2<=Mi)=false:=decide_eq_false c1;subst e;clear z6 z4 c1;go_wp2;go_meet
   exact⟨rfl,_,rfl⟩
  by_cases c2:y3=W
  case neg=>
   have e:=z6 (fun h=>c2 h.2.1);have d3:(y3==W)=false:=by rw[beq_eq_false_iff_ne];exact c2
   subst e;clear z6 z4 c2;go_wp2;go_meet
   exact⟨rfl,_,rfl⟩
  by_cases c3:y4=Mi
  case neg=>
   have e:=z6 (fun h=>c3 h.2.2.1);have d3:(y4==Mi)=false:=by rw[beq_eq_false_iff_ne];exact c3
   subst e;clear z6 z4 c3;go_wp2;go_meet
   exact⟨rfl,_,rfl⟩
  by_cases c4:y5=0
  case neg=>
   have e:=z6 (fun h=>c4 h.2.2.2.1);have d3:(y5==0)=false:=by rw[beq_eq_false_iff_ne];exact c4
   subst e;clear z6 z4 c4;go_wp2;go_meet
   exact⟨rfl,_,rfl⟩
  cases lf with
  |true=>
   have e:=z4 ⟨c1,c2,c3,c4, .inl rfl⟩;subst e c2 c3 c4;clear z6 z4;go_wp2;go_meet
   exact⟨rfl,_,rfl⟩
  |false=>
   by_cases c5:0<y2
   ·have e:=z4 ⟨c1,c2,c3,c4, .inr c5⟩;subst e c2 c3 c4;clear z6 z4;go_wp2;go_meet
    exact⟨rfl,_,rfl⟩
   ·have e:=z6 (fun h=>by rcases h.2.2.2.2 with h|h;cases h;exact c5 h);have d3:decide (0<y2)=false:=decide_eq_false c5;subst e c2 c3 c4;clear z6 z4 c5;go_wp2;go_meet
    exact⟨rfl,_,rfl⟩
 case rest=>
  obtain⟨rfl,m,rfl⟩:=hcut;clear HI zd;go_upto_region 9 with fail
  go_region
  go_wp2
  try simp only[Exit.inBlock,Exit.then]
  refine bodyPost_ret (v:= .tuple #[.agg #[.int .i64 y1, .bool lf, .slice none 0 0, .slice none 0 0], .int .i64 y2, .bool ok]) (by rw[Xr rfl];go_simp) rfl ?_
  first|exact HG.out _ _ ⟨y1,lf,y2,rfl,fun _=>⟨rfl,rfl,rfl⟩,(Qs (Zf ze.out _ _ _ _) m).drew⟩|exact HG.out _ _ ⟨y1,lf,y2,rfl,fun _=>⟨rfl,rfl,rfl⟩,Qs (Zf ze.out _ _ _ _).drew m⟩|trace_state
end
theorem right_any{w:World}{n:QF}{A:Option Addr}{c:Nat}{A2:Option Addr}{c2:Nat}(h:OW w w.heap.size n A c A2 c2)(hk:n.keys.length<=1000000)(hv:n.vals.length<=1000000):
  Calls prog 264 #[.agg #[.int .i64 n.t, .bool n.leaf, .slice A n.keys.length c, .slice A2 n.vals.length c2]] w fun e w'=>e= .returned (.bool (Ys n))/\Below w.heap.size w w':=by
 obtain⟨w1,zb⟩:=DR (w.alloc (.cells #[.int .i64 n.t, .bool n.leaf, .slice A n.keys.length c, .slice A2 n.vals.length c2] 113));have hx:Jy w1 w.heap.size w.heap.size n A c A2 c2:=by rw[zb];exact Jy.new h
 have zh:=DY (show Below w.heap.size w w1 by rw[zb];exact Qd w _);obtain⟨q0,q1,q2,q3,zj⟩:=hx;have z7:=DY zj;have zd:=whole_cases n;have HR:=DY (rightN_iff n);have zk:=fun W=>Yn n.t n.leaf W
 have z3:=fun m=>(show Calls prog 161 #[.int .i64 n.t, .bool n.leaf] (w1.drewN m) fun e w'=>e= .returned (.int .i64 (ZE n.t n.leaf))/\w'=w1.drewN m from(YZ n.t n.leaf _).mono fun e w' ⟨h1,h2⟩=>⟨h1,h2.symm⟩)
 have ze:=DY (show∀k,okAt n k↔keyE n.keys k=0/\((n.vals.getD k []).length:Int)=QV n.t n.leaf from fun k=>Iff.rfl);have z5:=DY (show Ys n=(YM n&&okN n n.keys.length) from rfl);go_enter func264,ntmps264
 go_upto_region 1 with fail
 rw[<-zb];clear zb zj h;generalize QV n.t n.leaf=W at*;generalize ZE n.t n.leaf=M at*;generalize YM n=wh at*;generalize n.t=t at*;generalize n.leaf=lf at*;have z6:=DY (show n.keys.length=n.keys.length from rfl);obtain⟨kn,z8⟩:=DR (n.keys.length);obtain⟨vn,z9⟩:=DR (n.vals.length);have z6:=DY z8;have zg:=DY z9;rw[<-z8,<-z9] at zd;rw[<-z8] at q2 hk z5;rw[<-z9] at q3 hv;rw[<-z8,<-z9];clear z8 z9;go_wp2_with fail
 refine(zk _).mono ?_;rintro e w2 ⟨rfl,rfl⟩;clear zk;have zf:=DY zd;go_upto_region 2 with fail
 go_cut [43] (fun s43 wx=>s43= .bool (!wh)/\∃m,wx=w1.drewN m)
 case first=>
  clear HR ze z5 z7 zf;rcases zd with⟨h1,h7⟩|⟨h1,h2,h7⟩|⟨h1,h2,h3,h7⟩|⟨h1,h2,h3,h4,h7⟩|⟨h1,h2,h3,h4,h5,h7⟩|⟨h1,h2,h3,h4,h5,h7⟩
  ·subst h1 h7;go_quiet ((go_at_call 161;exact Calls.quiet_of_same (z3 _)))
   go_wp2;go_meet
   exact⟨rfl,_,rfl⟩
  ·subst h7;have d1:(W==0)=false:=by rw[beq_eq_false_iff_ne];exact h1
   have i2:(M:Int)<(kn:Int):=by omega
   clear h1;go_quiet ((go_at_call 161;exact Calls.quiet_of_same (z3 _)))
   go_wp2;go_meet
   exact⟨rfl,_,rfl⟩
  ·subst h7;have d1:(W==0)=false:=by rw[beq_eq_false_iff_ne];exact h1
   have d2:decide (M<kn)=false:=decide_eq_false (by omega);have d3:((vn:Int) !=(kn:Int))=true:=by rw[bne_iff_ne];omega
   clear h1 h2 h3;go_quiet ((go_at_call 161;exact Calls.quiet_of_same (z3 _)))
   go_wp2;go_meet
   exact⟨rfl,_,rfl⟩
  ·subst h7 h4;have d1:(W==0)=false:=by rw[beq_eq_false_iff_ne];exact h1
   have d2:decide (M<kn)=false:=decide_eq_false (by omega);subst h3;clear h1 h2;go_quiet ((go_at_call 161;exact Calls.quiet_of_same (z3 _)))
   go_wp2;go_meet
   exact⟨rfl,_,rfl⟩
  ·subst h7 h4;have d1:(W==0)=false:=by rw[beq_eq_false_iff_ne];exact h1
   have d2:decide (M<kn)=false:=decide_eq_false (by omega);subst h3;subst h5;clear h1 h2;go_quiet ((go_at_call 161;exact Calls.quiet_of_same (z3 _)))
   go_wp2;go_meet
   exact⟨rfl,_,rfl⟩
  ·subst h7 h4;have d1:(W==0)=false:=by rw[beq_eq_false_iff_ne];exact h1
   have d2:decide (M<kn)=false:=decide_eq_false (by omega);subst h3;have d5:((vn:Int)==0)=false:=by rw[beq_eq_false_iff_ne];omega
   clear h1 h2 h5;go_quiet ((go_at_call 161;exact Calls.quiet_of_same (z3 _)))
   go_wp2;go_meet
   exact⟨rfl,_,rfl⟩
 case rest=>
  obtain⟨rfl,m,rfl⟩:=hcut;clear z3 zd;cases wh with
  |false=>
   have hr:Ys n=false:=by rw[z5.out];rfl
   have z2:=DY hr;have za:=DY (Qs zh m);clear hr;go_wp2;go_ret;exact⟨by rw[z2.out];rfl,za.out⟩
  |true=>
   have zm:vn=kn:=by
    rcases zf.out with⟨_,h7⟩|⟨_,_,h7⟩|⟨_,_,_,h7⟩|⟨_,_,h3,_,h7⟩|⟨_,_,_,_,_,h7⟩|⟨_,_,h3,_,_,h7⟩
    ·cases h7
    ·cases h7
    ·cases h7
    ·exact h3
    ·cases h7
    ·exact h3
   subst zm;go_wp2_with fail
   go_loopw [4,5,47] (fun _ _ s47 wr=>∃k m:Nat,k<=vn/\s47= .int .i64 k/\Hid (wr=w1.drewN m)/\Hid (okN n k=true)) (fun _ _ s47 _=>vn-(intOf s47).toNat)
   case atStart=>exact⟨0,m,by omega,rfl,DY rfl,DY rfl⟩
   case round=>
    obtain⟨k,m,hkv,rfl,HW,HO⟩:=hrel;obtain rfl:=HW.out;clear HW;have za:=Lib.hid (Qs zh m);by_cases hlt:k<vn
    ·obtain⟨ad,rfl,-,zn⟩:=(z7.out.ky.drewN m).at_ (k:=k) (by rw[QK,<-z6.out];exact hlt);rw[iv_getD n.keys (by rw[<-z6.out];exact hlt)] at zn;obtain⟨ad2,rfl,-,DU⟩:=(z7.out.vl.drewN m).at_ (k:=k) (by rw[RB,<-zg.out];exact hlt);rw[sv_getD n.vals (by rw[<-zg.out];exact hlt)] at DU;have zl:(n.keys.take k).length=k:=by rw[Ni,<-z6.out];omega
     have kk:=key_any (some ad) c (n.keys.take k) (n.keys.getD k 0) (w1.drewN m) _ (by omega) (by rw[<-iv_take];exact(z7.out.ky.drewN m).take k);rw[zl,keyL_at n.keys (by rw[<-z6.out];exact hlt)] at kk;have z0:=DY (ze.out k);have z1:=DY (fun h=>okN_bad (n:=n) (i:=k) (k:=vn) hlt h);have zc:=DY (show okAt n k->okN n (k+1)=true from fun h=>by unfold okN;rw[HO.out,decide_eq_true h];rfl);have zi:=z7.out.kc;rw[<-z6.out] at zi;have i1:(k:Int)<=(c:Int):=by omega
     have i2:k<=c:=by omega
     generalize keyE n.keys k=E at*;generalize n.keys.getD k 0=x at*;generalize n.vals.getD k []=y at*;have HK:=DY kk;clear kk zl HO zi zf HR ze;obtain⟨yl,z4⟩:=DR (y.length);have HYL:=DY z4;by_cases hE:E=0
     ·subst hE;by_cases hW:((yl:Nat):Int)=W
      ·have hn:=zc.out (z0.out.2 ⟨rfl,by rw[<-z4];exact hW⟩);have HN:=DY hn;subst hW;clear hn zc z1 z0;go_wp2_with fail
       refine HK.out.mono ?_;rintro e w3 ⟨rfl,rfl⟩;clear HK;subst z4;go_wp2;go_roundw
       case rel=>exact⟨k+1,m,by omega,by go_num,DY rfl,HN⟩
       case measure=>simp[intOf];omega
      ·have hb:=z1.out (fun h=>hW (by have:=(z0.out.1 h).2;rw[<-z4] at this;exact this));have hr:Ys n=false:=by rw[z5.out,hb];rfl
       have z2:=DY hr;have d1:((y.length:Int) !=W)=true:=by rw[bne_iff_ne,<-z4];exact hW
       clear hb hr zc z1 z0 hW z4;go_wp2_with fail
       refine HK.out.mono ?_;rintro e w3 ⟨rfl,rfl⟩;clear HK;go_wp2;go_ret;exact⟨by rw[z2.out];rfl,za.out⟩
     ·have hb:=z1.out (fun h=>hE ((z0.out.1 h).1));have hr:Ys n=false:=by rw[z5.out,hb];rfl
      have z2:=DY hr;have d1:(E !=0)=true:=by rw[bne_iff_ne];exact hE
      clear hb hr zc z1 z0 hE z4;go_wp2_with fail
      refine HK.out.mono ?_;rintro e w3 ⟨rfl,rfl⟩;clear HK;go_wp2;go_ret;exact⟨by rw[z2.out];rfl,za.out⟩
    ·obtain rfl:k=vn:=by omega
     have hr:Ys n=true:=by rw[z5.out,HO.out];rfl
     have z2:=DY hr;clear hr;go_wp2;go_ret;exact⟨by rw[z2.out];rfl,za.out⟩
def fcells(fs:List (Nat×Nat)):List Value:=fs.flatMap fun p=>[.int .i64 (p.1:Int), .int .i64 (p.2:Int)]
def EG(p:Nat×Nat):Prop:=(p.1=1/\p.2<256)∨(p.1=2/\p.2<65536)∨(p.1=4/\p.2<4294967296)∨(p.1=8/\p.2<9223372036854775808)
def fB(fs:List (Nat×Nat)):List UInt8:=fs.flatMap fun p=>leb p.1 p.2
def fI(fs:List (Nat×Nat)):List (Int×Int):=fs.map fun p=>((p.1:Int),(p.2:Int))
theorem EF{p:Nat×Nat}(h:EG p):Xa (p.1:Int)=true/\XD (p.2:Int) (p.1:Int)=true/\(Lit.int .i64 (p.2:Int)).wf=true:=by
 obtain⟨a,b⟩:=p;unfold EG at h;have hw:b<9223372036854775808:=by omega
 refine⟨?_,?_,?_⟩
 ·rw[Zy];simp only at h ⊢;omega
 ·unfold XD;rw[decide_eq_true_iff];simp only at h ⊢;omega
 ·simp[Lit.wf,IntKind.min,IntKind.max,IntKind.bits,IntKind.signed];omega
theorem packE_f:∀fs:List (Nat×Nat),(∀p∈fs,EG p)->Zu (fI fs)=0
 |[],_=>rfl
 |p::fs,h=>by
  obtain⟨h1,h2,-⟩:=EF (h p (Ll ..))
  show Zu (((p.1:Int),(p.2:Int))::fI fs)=0
  unfold Zu;rw[if_pos h1,if_pos h2];exact packE_f fs (fun q hq=>h q (NA _ hq))
theorem packB_f:∀fs:List (Nat×Nat),ZC (fI fs)=fB fs
 |[]=>rfl
 |p::fs=>by
  show leb (p.1:Int).toNat (p.2:Int).toNat++ZC (fI fs)=leb p.1 p.2++fB fs
  rw[packB_f fs];rfl
theorem EI:∀(fs:List (Nat×Nat)) (j:Nat) (p:Nat×Nat),fs[j]?=some p->(fcells fs)[j*2]?=some (.int .i64 (p.1:Int))/\(fcells fs)[j*2+1]?=some (.int .i64 (p.2:Int))
 |[],j,p,h=>by simp at h
 |q::fs,0,p,h=>by
  simp at h;subst h;exact⟨rfl,rfl⟩
 |q::fs,j+1,p,h=>by
  rw[NF] at h;have:=EI fs j p h;rw[Nat.succ_mul];exact this
theorem cpackL(fs:List (Nat×Nat))(hf:∀p∈fs,EG p)(hl:fs.length<=100)(g:Nat)(V:World)(hg:V.heap[g]?=some (.cells (fcells fs).toArray 289)):
  Calls prog 164 #[.slice (some ⟨g,0,none⟩) fs.length fs.length] V fun e w'=>
   ∃A c,e= .returned (.tuple #[.slice A (fB fs).length c, .int .i64 0])/\Hid (w'.ownsRow V.heap.size 5 1 (.slice A (fB fs).length c) (fB fs).length (bv (fB fs)))/\Hid (Below V.heap.size V w'):=by
 have e0:=packE_f fs hf;have e1:YH (fI fs)=fB fs:=by unfold YH;rw[if_pos e0,packB_f]
 have z1:(fI fs).length=fs.length:=by simp[fI]
 have hR:YC V V.heap.size (some ⟨g,0,none⟩) (fI fs):=fun _=>by
  refine⟨_,0,rfl,Zv hg,fun j p hj=>?_⟩
  unfold fI at hj;rw[Lx] at hj;obtain⟨q,hq,rfl⟩:=Option.map_eq_some_iff.1 hj;obtain⟨f1,f2⟩:=EI fs j q hq;rw[ND];exact⟨Qa hg _ (by rw[NS];exact f1),Qa hg _ (by rw[NS];exact f2)⟩
 have K:=J0 (some ⟨g,0,none⟩) fs.length (fI fs) V (by simp only[reachBytes];omega) (fun p hp=>by
  unfold fI at hp;obtain⟨q,hq,rfl⟩:=List.mem_map.1 hp;exact(EF (hf q hq)).2.2) hR
 rw[z1] at K;refine K.mono ?_;rintro e w' ⟨A,c,rfl,z0,hb⟩;rw[e0,e1];rw[e1,Qm] at z0;rw[Qm];exact⟨A,c,rfl,DY z0,DY hb⟩
end Go.Proofs.YtijcgllddnpmhaaGreatDoor
