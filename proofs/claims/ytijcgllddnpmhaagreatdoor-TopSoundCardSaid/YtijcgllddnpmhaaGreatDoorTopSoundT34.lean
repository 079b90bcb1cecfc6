/- TopSound: lemmas, part 34. -/
import Derived.Test.YtijcgllddnpmhaaGreatDoorTopSoundT32
set_option maxRecDepth 100000
set_option maxHeartbeats 16000000
set_option linter.all false
namespace Go.Proofs.YtijcgllddnpmhaaGreatDoor
open Go.RowKit Go.Proofs.Tryz
theorem adev_any{w:World}{g base m:Nat}{bs:List UInt8}{s:Nat->Int}{fuel root:Int}{bd br bm:Nat}{bad:Bool}{N nd nr nm:Nat}{fd fr fm:Int->Option Value}{v:Value}
  (h:Aud w g base m s fuel bd br bm bad N nd nr nm fd fr fm v) (hi:ZH w base m bs) (hT:XC w) (hfu:fuel<=1000000) (hN:N<=4000000000000):
  Calls prog 245 #[.pointer (some ⟨g,0,none⟩), .int .i64 root] w fun e w'=>∃A c ms v',e= .returned (.slice A ms.length c)/\Aud w' g base m s fuel bd br bm (bad||!(ZM bs (s 3) fuel root).isSome) (N+37000001) nd nr nm fd fr fm v'/\
   ms.length<=18000000/\((bad||!(ZM bs (s 3) fuel root).isSome)=false->ZM bs (s 3) fuel root=some ms)/\w'.ownsRow w.heap.size 52 3 (.slice A ms.length c) ms.length (mv ms)/\Q3 g base w w':=by
 obtain⟨js,q6,q7,q8,qi⟩:=info_parts Tryz.infoMapL;have KB:=DY (fun(V:World) (hS:Below w.heap.size w V)=>O4 root 2 fuel hfu V (hi.below (hS.mono h.bs)) (D3 h.bs hS.size));have z7:=Jj bs root 2 fuel;obtain⟨st,zu⟩:=DR (QP bs root 2 fuel);have zx:=DY (fun b=>maps_bad (data:=s 3) zu b);have zU:=DY (Ex (data:=s 3) zu);rw[<-zu] at KB z7;have qd:=DY z7;have HA:=DY h;have HG:=DY (DZ (D0.1 h.row).1 (DZ hi (DZ hT hN)));obtain⟨qm,zM⟩:=DR (ZM bs (s 3) fuel root);rw[<-zM] at zx zU ⊢;have c1:w.cell? ⟨g,1,none⟩=some (.pointer (some ⟨m,0,none⟩)):=Qa h.row 1 rfl;have zH:w.cell? ⟨g,13,none⟩=some (.int .i64 fuel):=Qa h.row 13 rfl;clear h hi hT zu z7 hN zM;go_enter func245,ntmps245
 go_upto_region 1 with fail
 go_cut [5,21] (fun s2 s20 wx=>ScB w st s2 wx)
 case first=>
  have zK:=(D6 w.heap.size w).drew;have zf:=DY (fun(V V':World) (hb:Below V.heap.size V V') (hS:Below w.heap.size w V/\V.cell? ⟨g,1,none⟩=some (.pointer (some ⟨m,0,none⟩))/\V.cell? ⟨g,13,none⟩=some (.int .i64 fuel))=>
   (show Below w.heap.size w V'/\V'.cell? ⟨g,1,none⟩=some (.pointer (some ⟨m,0,none⟩))/\V'.cell? ⟨g,13,none⟩=some (.int .i64 fuel) from⟨Qb hS.1 hb,Qg hb hS.2.1,Qg hb hS.2.2⟩))
  have zv:=DY (fun(V:World) (r:Nat) (hr:w.heap.size<=r) (x0 x1 x2 x3 x4:Value) (hS:Below w.heap.size w V/\V.cell? ⟨g,1,none⟩=some (.pointer (some ⟨m,0,none⟩))/\V.cell? ⟨g,13,none⟩=some (.int .i64 fuel))=>
   (show Below w.heap.size w (((((V.setCell ⟨r,0,none⟩ x0).setCell ⟨r,1,none⟩ x1).setCell ⟨r,2,none⟩ x2).setCell ⟨r,3,none⟩ x3).setCell ⟨r,4,none⟩ x4)/\(((((V.setCell ⟨r,0,none⟩ x0).setCell ⟨r,1,none⟩ x1).setCell ⟨r,2,none⟩ x2).setCell ⟨r,3,none⟩ x3).setCell ⟨r,4,none⟩ x4).cell? ⟨g,1,none⟩=some (.pointer (some ⟨m,0,none⟩))/\(((((V.setCell ⟨r,0,none⟩ x0).setCell ⟨r,1,none⟩ x1).setCell ⟨r,2,none⟩ x2).setCell ⟨r,3,none⟩ x3).setCell ⟨r,4,none⟩ x4).cell? ⟨g,13,none⟩=some (.int .i64 fuel) from by
    have hb:=(D6 w.heap.size V).grown (Zz V r x0 x1 x2 x3 x4) hS.1.size (fun k hk=>by have:=Nd hk;omega);exact⟨hS.1.trans hb,(hb.cell (p:=⟨g,1,none⟩) HG.out.1).trans hS.2.1,(hb.cell (p:=⟨g,13,none⟩) HG.out.1).trans hS.2.2⟩))
  have q9:=DY (show(w.drew.alloc (.cells #[.slice none 0 0, .slice none 0 0, .int .i64 0, .int .i64 0, .slice none 0 0] 140)).heap[w.heap.size]?=some (.cells #[.slice none 0 0, .slice none 0 0, .int .i64 0, .int .i64 0, .slice none 0 0] 140) from heap_alloc_new w.drew _);refine wp_region_held_drew (S:=(fun V=>Below w.heap.size w V/\V.cell? ⟨g,1,none⟩=some (.pointer (some ⟨m,0,none⟩))/\V.cell? ⟨g,13,none⟩=some (.int .i64 fuel))) (by kernel_rfl) ?_ (fun hHeld=>?_)
  (focus((try dsimp only);(first|exact⟨zK,c1,zH⟩|with_reducible exact zf.out _ _ zt hHeld|with_reducible exact zf.out _ _ (Qd _ _) zQ.out|with_reducible exact zf.out _ _ (Qd _ _) hHeld|exact zv.out w9 w.heap.size (Na _) _ _ _ _ _ hHeld|exact zv.out _ w9.heap.size hHeld.1.size _ _ _ _ _ hHeld)))
  refine QD (.f 0 (.f 1 (.f 2 (.f 3 (.f 4 (.f 5 (.f 6 (.f 7 (.f 8 (.t 9 (.o 10 (.o 11 .e)) 10 (.o 9 (.o 11 .e)))))))))))) ?_
  repeat' ((first|(refine QL (v:=?_) (hv:=?_) (h:=?_);rotate_left;(focus(first|(refine .inr ⟨by rfl,?_⟩;rfl)|(refine .inl ⟨by rfl,?_⟩;intro w hSw;(try dsimp only at hSw);(try simp only[D8,D4,D5]);go_simp;try(with_reducible rfl)))))|(refine Qr (h:=?_))|(((first|refine Qx (h:=fun K hK=>?_)|refine Zt (h:=fun K hK=>?_) (h':=fun K hK=>?_))<;>((try simp only[D8,D4,D5]);go_simp))<;>((first|(go_at_call 122;refine(KB.out _ hHeld.1).mono ?_;rintro e w9 ⟨E0,el,E1,B0,bl,B1,dd,lk,F0,fl,F1,rfl,zc,zt⟩;have zg:=DY (zc.mono hHeld.1.size);have zQ:=DY (zf.out _ _ zt hHeld);clear zc;first|(have za:=Qe q9.out zt;have q0:=Qa za 0 rfl;have q1:=Qa za 1 rfl;have q2:=Qa za 2 rfl;have q3:=Qa za 3 rfl;have q4:=Qa za 4 rfl;have z0:=Qf za 0;have z1:=Qf za 1;have z2:=Qf za 2;have z3:=Qf za 3;have z4:=Qf za 4;have zN:=DY za;clear za)|skip)|skip);refine hK.out _ _ ?_ (fun hHeld=>?_);(focus((try dsimp only);(first|exact⟨zK,c1,zH⟩|with_reducible exact zf.out _ _ zt hHeld|with_reducible exact zf.out _ _ (Qd _ _) zQ.out|with_reducible exact zf.out _ _ (Qd _ _) hHeld|exact zv.out w9 w.heap.size (Na _) _ _ _ _ _ hHeld|exact zv.out _ w9.heap.size hHeld.1.size _ _ _ _ _ hHeld)));clear hK K)))<;>(try simp only[Act.put,Nc,Nf,Ng]))
  all_goals (refine Qu ?_;refine wpAnyH_done (by kernel_rfl) ?_ _)
  ·go_wp2;go_meet
   exact⟨hHeld.1,w9.heap.size,E0,el,E1,B0,bl,B1,dd,lk,F0,fl,F1,rfl,heap_alloc_new w9 _,zg.out.keep (Qd w9 _)⟩
  ·go_wp2;go_meet
   exact⟨hHeld.1,w.heap.size,E0,el,E1,B0,bl,B1,dd,lk,F0,fl,F1,rfl,JV zN.out _ _ _ _ _,zg.out.grown zN.out (by decide) (by decide) (by decide) (Zz _ _ _ _ _ _ _)⟩
 case rest=>
  obtain⟨z5,X,E0,el,E1,B0,bl,B1,dd,lk,F0,fl,F1,rfl,hX,zc⟩:=hcut;have z6:=(D6 wc.heap.size wc).drew;have ha:=(HA.out.keep z5).keep z6;have zc:=zc.keep z6;obtain⟨ls,qe,zT,zV,zR⟩:=zc.f;subst qe;have KF:=Oa (w:=wc.drew) (g:=g) (base:=base) (B:=w.heap.size) (cs:=auC v m s fuel bd br bm) (t:=349) (v:=v) (bad:=bad) (N:=N) ha.row (by decide) (by decide) (by decide) rfl ha.dmg ha.bs (by have:=ha.b0;have:=ha.ge;omega) ha.b0 (fl:=ls) (by have:=HG.out.2.2.2;have:=zc.fb;omega) 3 F0 F1 zT zV (HG.out.2.2.1.below (Qb z5 z6));have x4:=Qa hX 4 rfl;have x0:=Qa hX 0 rfl;have zA:=DY ha;have HX:=DY (Qe hX z6);have zg:=DY zc;have qa:=DY (Qb z5 z6);have zl:=DY zR;clear ha z5 hX zc zT zV zR c1 zH z6;go_upto_region 2 with fail
  go_still_tail 5,(by kernel_rfl)
  change wpList _ _ _ _ _ wc.drew;generalize wc.drew=w3 at*;go_wp2_with fail
  refine KF.mono ?_;rintro e w4 ⟨rfl,v4,zI,zL,zr⟩;have zz:=zA.out.added zI zL zr;rw[<-zl.out] at zz;have zJ:=zr.row HX.out (Ve HX.out zA.out.row (by decide)) (by decide);have q0:=Qa zJ 0 rfl;have zD:=zr.own zA.out.row zg.out.e (by decide) (by decide);have qj:=DY ((Q3.of_below qa:Q3 g base w w3).trans zr);obtain⟨es,zo⟩:=DR (st.ents);rw[<-zo] at zD;have q5:el=es.length:=by rw[zo];exact zg.out.ee
  subst q5;have qf:=DY (show GH g base m s fuel bd br bm (bad||st.bad) (N+ls.length) nd nr nm fd fr fm (s 3) w.heap.size E1 E0 es w 0 (.slice none 0 0) w4 from
   ⟨v4,N+ls.length,[],by simpa using zz,by omega,by simp,fun _=>rfl,qj.out,zD,Nb _ _ _ _⟩)
  have HL:=DY (And.intro zg.out.eb zg.out.fb);have qb:=DY zo;have ql:=DY (show∀k,k<es.length->(Lit.int .i64 (Zr es k)).wf=true/\(YN es k).length<=reachBytes by rw[zo];exact qd.out);clear KF zI zL zr zz zJ zD zo x4 x0 zl;go_wp2_with fail
  go_loopw [6,31] (fun u i wr=>∃(k:Nat),k<=es.length/\i= .int .i64 k/\Hid (GH g base m s fuel bd br bm (bad||st.bad) (N+ls.length) nd nr nm fd fr fm (s 3) w.heap.size E1 E0 es w k u wr)) (fun u i _=>es.length-(intOf i).toNat)
  case atStart=>exact⟨0,by omega,rfl,qf⟩
  case round=>
   obtain⟨k,hk,rfl,HH⟩:=hrel;have qh:k<=18000000:=by have:=HL.out.1;omega
   have zY:=DY qh;by_cases hlt:k<es.length
   ·obtain⟨vr,N',ms,hA,hN',hn,hf,hB,hE,hU⟩:=HH.out;have z9:=ql.out k hlt;unfold Zr YN at z9;rw[D9] at z9;obtain⟨y0,y1,y2,hy⟩:∃y0 y1 y2,es[k]=⟨y0,y1,y2⟩:=⟨_,_,_,rfl⟩;have zF:es[k]?=some ⟨y0,y1,y2⟩:=by rw[D1 hlt,hy]
    obtain⟨b,o,rfl,e0,e1,e2⟩:=Gl hE rfl zF;rw[zF] at z9;simp only[N8] at z9;clear zF;have zi:=Lib.hid hlt;obtain⟨wa,zP,zq,zB⟩:=DS wr (.cells #[.int .i64 y0, .string ⟨y1.toArray⟩, .int .i64 y2] 146);have z1:=Qa zB 1 rfl;have KD:=Ol y1 wa z9.2;have zS:=Lib.hid (show ZN (s 3) (es[k]'hlt)=if rdE [XU] y1=0/\rd1 XU y1 / 16777216<s 3 then some ⟨y0,rd1 XU y1 / 16777216,rd1 XU y1 % 16777216⟩ else none by rw[hy];rfl);generalize rdE [XU] y1=er at*;generalize rd1 XU y1 / 16777216=x1 at*;generalize rd1 XU y1 % 16777216=x2 at*;have z8:=Lib.hid (DZ hA (DZ hN' (DZ hn (DZ hf hU))));have zX:=Lib.hid hB.size;have qc:=Lib.hid zq;have zZ:=Lib.hid zB;have h3:wr.cell? ⟨g,5,none⟩=some (.int .i64 (s 3)):=Qa hA.row 5 rfl;have C3:=Lib.hid h3;clear hA hN' hn hf hB hE hU z9 hy zq zB h3;generalize s 3=data at*;go_upto_region 7 with fail
    rw[<-zP];clear zP e0 e1 e2;go_wp2_with fail
    refine KD.mono ?_;rintro e wd ⟨rfl,zG⟩;have z5:=Qb qc zG;have zn:=Lib.hid z5;have zs:=Qe zZ zG;have HKD:=DY zs;have c5:=Qg z5 C3.out;have k0:=Qa zs 0 rfl;have k2:=Qa zs 2 rfl;clear KD zG z5 zs z1;by_cases hok:er=0/\x1<data
    ·obtain⟨he,hx⟩:=hok;have zw:=DY (show ZN data (es[k]'hlt)=some ⟨y0,x1,x2⟩ by rw[zS.out,if_pos ⟨he,hx⟩]);have z6:=(D6 wd.heap.size wd).drew;have z5:=Qb zn z6;have zd:=z8.out.1.keep z5;have zj:=Qk z8.out.2.2.2.2 z5;have KA:=UF g 3 y2 wd.drew;have zy:=DY zd;have zb:=DY z5;have zh:=DY zj;have k0d:=Qg z6 k0;have zC:=Qg z6 k2;have d1:decide (data<=x1)=false:=decide_eq_false (by omega);subst he;clear z6 z5 zd zj hx;go_upto_region 10 with fail
     go_still_tail 6,(by kernel_rfl)
     change wpList _ _ _ _ _ wd.drew;generalize wd.drew=wb at*;go_wp2_with fail
     refine KA.mono ?_;rintro e wf ⟨rfl,rfl⟩;obtain⟨u0,uc,rfl⟩:=QI zh;have zE:=zh.out.alloc (.cells #[.int .i64 y0, .int .i64 x1, .int .i64 x2] 52);have qk:w.heap.size<=(wb.alloc (.cells #[.int .i64 y0, .int .i64 x1, .int .i64 x2] 52)).heap.size:=D3 zX (D3 zb.out.size (Qd wb _).size);have hln:ms.length<=18000000:=by have:=z8.out.2.2.1;omega
     clear KA k0 k2 c5;go_wp2_with (at_builtin;refine Qq _ rfl (.tmp 61) (.tmp 67) _ rfl w.heap.size 3 52 js _ 24 underlying47 q6 q7 q8 qi rfl (by decide) (.slice u0 ms.length uc) ms.length (mv ms) rfl zE _ _ 1 1 [.int .i64 y0, .int .i64 x1, .int .i64 x2] rfl rfl (Qh.new wb [.int .i64 y0, .int .i64 x1, .int .i64 x2] 52 (0,0)) (by simp[Value.oneCell']) (by simp only[maxLen];omega) (by omega) qk ?_;intro A7 c7 w7 ze zO qg _;have zW:=DY (DZ ze zO);clear ze zO qg)
     go_roundw
     case rel=>
      have zq:=Qd wb (.cells #[.int .i64 y0, .int .i64 x1, .int .i64 x2] 52);exact⟨k+1,by have:=zi.out;omega,by go_num,DY (GH.yes HH hlt zw (Qb zb zq) (zy.out.keep zq) z8.out.2.2.1 z8.out.2.1 z8.out.2.2.2.1 (zh.out.alloc _) zW.out.1 zW.out.2)⟩
     case measure=>have:=zi.out;simp[intOf];omega
    ·have zw:=DY (show ZN data (es[k]'hlt)=none by rw[zS.out,if_neg hok]);have z6:=(D6 wd.heap.size wd).drew;have z5:=Qb zn z6;have zd:=z8.out.1.keep z5;have zj:=Qk z8.out.2.2.2.2 z5;have KA:=fun(er2:Int) (h:er2≠0)=>Vl (w:=wd.drew) (g:=g) (base:=base) (cs:=auC vr m s fuel bd br bm) (t:=349) zd.row (by decide) rfl zd.dmg zd.bs (by have:=HG.out.2.2.2;have:=HL.out;have:=z8.out.2.1;have:=zY.out;omega) 3 y2 er2
     have zy:=DY zd;have zb:=DY z5;have zh:=DY zj;have zC:=Qg z6 k2;by_cases he:er=0
     ·have d1:decide (data<=x1)=true:=decide_eq_true (by omega);have KA:=KA 2 (by decide);subst he;clear z6 z5 zd zj hok;go_upto_region 10 with fail
      go_still_tail 6,(by kernel_rfl)
      change wpList _ _ _ _ _ wd.drew;generalize wd.drew=wb at*;go_wp2_with fail
      refine KA.mono ?_;rintro e wf ⟨rfl,v5,zk,zm,zp⟩;have HF:=DY (GH.no HH.out hlt zw.out zb.out zy.out z8.out.2.2.1 z8.out.2.1 zh.out zk (by simpa using zm) zp);clear KA zk zm zp k0 k2 c5 zC;go_wp2;go_roundw
      case rel=>exact⟨k+1,by have:=zi.out;omega,by go_num,HF⟩
      case measure=>have:=zi.out;simp[intOf];omega
     ·have KA:=KA er he;have d1:(er==0)=false:=by rw[beq_eq_false_iff_ne];exact he
      have d2:decide (er≠0)=true:=decide_eq_true he;rw[d2,Bool.or_true] at KA;clear z6 z5 zd zj hok he d2;go_upto_region 10 with fail
      go_still_tail 6,(by kernel_rfl)
      change wpList _ _ _ _ _ wd.drew;generalize wd.drew=wb at*;go_wp2_with fail
      refine KA.mono ?_;rintro e wf ⟨rfl,v5,zk,zm,zp⟩;have HF:=DY (GH.no HH hlt zw zb zy z8.out.2.2.1 z8.out.2.1 zh zk zm zp);clear KA zk zm zp k0 k2 c5 zC;go_wp2;go_roundw
      case rel=>exact⟨k+1,by have:=zi.out;omega,by go_num,HF⟩
      case measure=>have:=zi.out;simp[intOf];omega
   ·obtain rfl:k=es.length:=by omega
    obtain⟨v5,N5,ms,h1,h2,h3,h4,h5,h6,h7⟩:=HH.out;obtain⟨A9,c9,rfl⟩:=QI h7;have HF:=Lib.hid (DZ h1 (DZ h2 (DZ h3 (DZ h4 (DZ h5 h7)))));clear h1 h2 h3 h4 h5 h6 h7;go_wp2;go_ret;obtain⟨h1,h2,h3,h4,h5,h7⟩:=HF.out;rw[Nw,qb.out,zx.out] at h1 h4;refine⟨A9,c9,ms,v5,rfl,h1.moreN (by have:=HL.out;omega),by have:=HL.out;omega,fun e=>?_,h7,h5⟩
    rw[<-zx.out] at e;have hb:st.bad=false:=by
     cases h:st.bad with
     |false=>rfl
     |true=>rw[h] at e;simp at e
    rw[zU.out,if_neg (by rw[hb];decide)];exact h4 (by rw[zx.out] at e;exact e)
theorem R6:∀(n:Nat) (R:List Int),R.Nodup->(∀r∈R,1<=r/\r<=n)->R.length<=n
 |0,R,_,h=>by
  cases R with
  |nil=>exact Na _
  |cons a r=>have:=h a (by simp);omega
 |n+1,R,hn,h=>by
  by_cases hm:((n+1:Nat):Int)∈R
  ·have h1:=R6 n (R.erase ((n+1:Nat):Int)) (hn.erase _) (fun r hr=>by
    have h2:=h r (List.mem_of_mem_erase hr);have h3:r≠((n+1:Nat):Int):=fun e=>by subst e;exact(hn.not_mem_erase) hr
    omega)
   rw[List.length_erase_of_mem hm] at h1;omega
  ·have h1:=R6 n R hn (fun r hr=>by
    have h2:=h r hr;have h3:r≠((n+1:Nat):Int):=fun e=>hm (e▸hr)
    omega)
   omega
structure XL(W:World)(base:Nat)(bs:List UInt8)(data fuel:Int)(flag:Bool)(R:List Int)(fm:Int->Option Value):Prop where
 nd:R.Nodup
 rg:∀r∈R,1<=r/\r<=14399
 mem:∀r,(fm r).isSome=true↔r∈R
 row:∀r u,fm r=some u->∃ms:List ZO,W.ownsRow base 52 3 u ms.length (mv ms)/\ms.length<=18000000/\(flag=false->ZM bs data fuel r=some ms)
section
variable {W W':World} {base:Nat} {bs:List UInt8} {data fuel:Int} {flag:Bool} {R:List Int} {fm:Int->Option Value}
theorem XL.nil(W:World)(base:Nat)(bs:List UInt8)(data fuel:Int)(flag:Bool):XL W base bs data fuel flag [] (fun _=>none):=⟨List.nodup_nil,fun _ h=>(by cases h),fun r=>(by simp),fun r u h=>(by cases h)⟩
theorem XL.len(h:XL W base bs data fuel flag R fm):R.length<=14399:=R6 14399 R h.nd h.rg
theorem XL.keep(h:XL W base bs data fuel flag R fm)(hb:Below W.heap.size W W'):XL W' base bs data fuel flag R fm:=
 ⟨h.nd,h.rg,h.mem,fun r u hu=>let⟨ms,a,b,c⟩:=h.row r u hu;⟨ms,Qk a hb,b,c⟩⟩
theorem XL.turn(h:XL W base bs data fuel flag R fm){b n:Nat}{f:Int->Option Value}(hv:Xm W b n f)(hg:W.grownBy W' (some b)):XL W' base bs data fuel flag R fm:=
 ⟨h.nd,h.rg,h.mem,fun r u hu=>let⟨ms,a,b,c⟩:=h.row r u hu;⟨ms,a.kept hg (.inr (hv.not_row a).symm),b,c⟩⟩
theorem XL.added(h:XL W base bs data fuel flag R fm){g:Nat}{gc:Array Value}{gz:Nat×Nat}(hg:W.heap[g]?=some (.cells gc 349 gz))(ht:Q3 g base W W'):XL W' base bs data fuel flag R fm:=
 ⟨h.nd,h.rg,h.mem,fun r u hu=>let⟨ms,a,b,c⟩:=h.row r u hu;⟨ms,ht.own hg a (by decide) (by decide),b,c⟩⟩
theorem XL.flags(h:XL W base bs data fuel flag R fm){flag':Bool}(hf:flag'=false->flag=false):XL W base bs data fuel flag' R fm:=
 ⟨h.nd,h.rg,h.mem,fun r u hu=>let⟨ms,a,b,c⟩:=h.row r u hu;⟨ms,a,b,fun e=>c (hf e)⟩⟩
theorem XL.put(h:XL W base bs data fuel flag R fm){r:Int}(hr:1<=r/\r<=14399)(hn:fm r=none){u:Value}{ms:List ZO}(ho:W.ownsRow base 52 3 u ms.length (mv ms))(hl:ms.length<=18000000)(hf:flag=false->ZM bs data fuel r=some ms):
  XL W base bs data fuel flag (r::R) (fun y=>if y=r then some u else fm y):=by
 have hm:r∉R:=fun h1=>by have:=(h.mem r).2 h1;rw[hn] at this;cases this
 refine⟨List.nodup_cons.2 ⟨hm,h.nd⟩,fun x hx=>?_,fun x=>?_,fun x y hx=>?_⟩
 ·rcases Nt.1 hx with rfl|hx
  ·exact hr
  ·exact h.rg x hx
 ·by_cases e:x=r
  ·simp[e]
  ·rw[if_neg e,h.mem,Nt];exact⟨.inr,fun h=>h.resolve_left e⟩
 ·by_cases e:x=r
  ·rw[if_pos e] at hx;cases hx;subst e;exact⟨ms,ho,hl,hf⟩
  ·rw[if_neg e] at hx;exact h.row x y hx
end
def Og(g base m:Nat)(s:Nat->Int)(fuel:Int)(bd br bm:Nat)(b0:Bool)(N nd:Nat)(fd:Int->Option Value)(bs:List UInt8)(data:Int)(B E1:Nat)(E0:Option Addr)(T:List Qv)(w:World)(k:Nat)(W:World):Prop:=
 ∃v fr fm N' nr nm R,Aud W g base m s fuel bd br bm (Za bs data fuel b0 (T.take k)) N' nd nr nm fd fr fm v/\XL W base bs data fuel (Za bs data fuel b0 (T.take k)) R fm/\N'<=N+k+37000001*R.length/\nr<=k/\nm<=R.length/\
  (Za bs data fuel b0 (T.take k)=false->fr=Xq YG (T.take k))/\(Za bs data fuel b0 (T.take k)=false->∀e∈T.take k,rd1 QB e.val∈R)/\Below base w W/\W.ownsRow B 146 3 (.slice E0 T.length E1) T.length (ev T)
section
variable {g base m:Nat} {s:Nat->Int} {fuel:Int} {bd br bm:Nat} {b0:Bool} {N nd:Nat} {fd:Int->Option Value} {bs:List UInt8} {data:Int} {B E1:Nat} {E0:Option Addr} {T:List Qv} {w W W1 W':World} {k:Nat}
theorem topBad_no{bs:List UInt8}{data fuel:Int}{b0:Bool}{T:List Qv}{k:Nat}(hk:k<T.length)(h:YT bs data fuel T[k]=false):Za bs data fuel b0 (T.take (k+1))=true:=by rw[JM _ _ _ _ _ hk,h];simp
theorem Og.no{v v':Value}{fr fm:Int->Option Value}{N' nr nm:Nat}{R:List Int}(hk:k<T.length)(hd:YT bs data fuel T[k]=false)(ha:Aud W g base m s fuel bd br bm (Za bs data fuel b0 (T.take k)) N' nd nr nm fd fr fm v)
  (hm:XL W base bs data fuel (Za bs data fuel b0 (T.take k)) R fm) (hN:N'<=N+k+37000001*R.length) (h1:nr<=k) (h2:nm<=R.length) (hb:Below base w W) (he:W.ownsRow B 146 3 (.slice E0 T.length E1) T.length (ev T))
  (hr:W'.heap[g]?=some (.cells ((auC v m s fuel bd br bm).setIfInBounds 0 v') 349)) (hdm:AuD W' base v' true (N'+1)) (ht:Q3 g base W W'):
  Og g base m s fuel bd br bm b0 N nd fd bs data B E1 E0 T w (k+1) W':=by
 have z0:Za bs data fuel b0 (T.take (k+1))=true:=topBad_no hk hd;unfold Og;rw[z0];exact⟨v',fr,fm,N'+1,nr,nm,R,ha.added hr hdm ht,(hm.added ha.row ht).flags (fun e=>by cases e),by omega,by omega,h2,fun e=>(by cases e),fun e=>(by cases e),hb.trans (ha.below ht),ht.own ha.row he (by decide) (by decide)⟩
theorem topBad_told{R:List Int}{fm:Int->Option Value}(hk:k<T.length)(he:rdE [QB] T[k].val=0)(hm:XL W base bs data fuel (Za bs data fuel b0 (T.take k)) R fm){u:Value}(hu:fm (rd1 QB T[k].val)=some u):
  Za bs data fuel b0 (T.take (k+1))=Za bs data fuel b0 (T.take k):=by
 rw[JM _ _ _ _ _ hk];cases hf:Za bs data fuel b0 (T.take k) with
 |true=>rfl
 |false=>
  obtain⟨ms,-,-,h⟩:=hm.row _ u hu;unfold YT;rw[he,h hf]
  rfl
theorem Og.told{v:Value}{fr fr' fm:Int->Option Value}{N' nr nm:Nat}{R:List Int}(hk:k<T.length)(hp:(Qp T).Pairwise (·<·))(he0:rdE [QB] T[k].val=0){u:Value}(hu:fm (rd1 QB T[k].val)=some u)
  (ha:Aud W g base m s fuel bd br bm (Za bs data fuel b0 (T.take k)) N' nd (nr+1) nm fd fr' fm v) (hm:XL W base bs data fuel (Za bs data fuel b0 (T.take k)) R fm) (hN:N'<=N+k+37000001*R.length) (h1:nr<=k) (h2:nm<=R.length)
  (hf:Za bs data fuel b0 (T.take k)=false->fr=Xq YG (T.take k)) (hff:fr'=fun y=>if y=T[k].key then some (YG T[k]) else fr y) (hq:Za bs data fuel b0 (T.take k)=false->∀e∈T.take k,rd1 QB e.val∈R)
  (hb:Below base w W) (he:W.ownsRow B 146 3 (.slice E0 T.length E1) T.length (ev T)):Og g base m s fuel bd br bm b0 N nd fd bs data B E1 E0 T w (k+1) W:=by
 have z0:=topBad_told hk he0 hm hu;unfold Og;rw[z0];refine⟨v,fr',fm,N',nr+1,nm,R,ha,hm,by omega,by omega,h2,fun e=>?_,fun e x hx=>?_,hb,he⟩
 ·rw[hff,hf e,Nl hk];exact Gg (RQ hp hk)
 ·rw[Nl hk] at hx;rcases NY.1 hx with hx|hx
  ·exact hq e x hx
  ·obtain rfl:x=T[k]:=by simpa using hx
   exact(hm.mem _).1 (by rw[hu];rfl)
theorem Og.new{v:Value}{fr fr' fm fm':Int->Option Value}{N' nr nm:Nat}{R:List Int}(hk:k<T.length)(hp:(Qp T).Pairwise (·<·))(he0:rdE [QB] T[k].val=0)(hr:1<=rd1 QB T[k].val/\rd1 QB T[k].val<=14399)(hu:fm (rd1 QB T[k].val)=none)
  {u:Value} {ms:List ZO} (ha:Aud W g base m s fuel bd br bm (Za bs data fuel b0 (T.take k)||!(ZM bs data fuel (rd1 QB T[k].val)).isSome) (N'+37000001) nd (nr+1) (nm+1) fd fr' fm' v)
  (hm:XL W base bs data fuel (Za bs data fuel b0 (T.take k)) R fm) (ho:W.ownsRow base 52 3 u ms.length (mv ms)) (hl:ms.length<=18000000) (hms:(Za bs data fuel b0 (T.take k)||!(ZM bs data fuel (rd1 QB T[k].val)).isSome)=false->ZM bs data fuel (rd1 QB T[k].val)=some ms)
  (hfm:fm'=fun y=>if y=rd1 QB T[k].val then some u else fm y) (hN:N'<=N+k+37000001*R.length) (h1:nr<=k) (h2:nm<=R.length)
  (hf:Za bs data fuel b0 (T.take k)=false->fr=Xq YG (T.take k)) (hff:fr'=fun y=>if y=T[k].key then some (YG T[k]) else fr y) (hq:Za bs data fuel b0 (T.take k)=false->∀e∈T.take k,rd1 QB e.val∈R)
  (hb:Below base w W) (he:W.ownsRow B 146 3 (.slice E0 T.length E1) T.length (ev T)):Og g base m s fuel bd br bm b0 N nd fd bs data B E1 E0 T w (k+1) W:=by
 have z1:Za bs data fuel b0 (T.take (k+1))=(Za bs data fuel b0 (T.take k)||!(ZM bs data fuel (rd1 QB T[k].val)).isSome):=by
  rw[JM _ _ _ _ _ hk];unfold YT;rw[he0]
  rfl
 have z0:(Za bs data fuel b0 (T.take k)||!(ZM bs data fuel (rd1 QB T[k].val)).isSome)=false->Za bs data fuel b0 (T.take k)=false:=fun e=>by
  cases h:Za bs data fuel b0 (T.take k) with
  |false=>rfl
  |true=>rw[h] at e;cases e
 unfold Og;rw[z1];subst hfm;refine⟨v,fr',_,N'+37000001,nr+1,nm+1,_::R,ha,(hm.flags z0).put hr hu ho hl hms,by rw[No];omega,by omega,by rw[No];omega,fun e=>?_,fun e x hx=>?_,hb,he⟩
 ·rw[hff,hf (z0 e),Nl hk];exact Gg (RQ hp hk)
 ·rw[Nl hk] at hx;rcases NY.1 hx with hx|hx
  ·exact NA _ (hq (z0 e) x hx)
  ·obtain rfl:x=T[k]:=by simpa using hx
   exact Ll
end
end Go.Proofs.YtijcgllddnpmhaaGreatDoor
