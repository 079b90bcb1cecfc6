/- TopSound: lemmas, part 32. -/
import Derived.Test.YtijcgllddnpmhaaGreatDoorTopSoundT30
set_option maxRecDepth 100000
set_option maxHeartbeats 16000000
set_option linter.all false
namespace Go.Proofs.YtijcgllddnpmhaaGreatDoor
open Go.RowKit Go.Proofs.Tryz
theorem detail_any{w:World}{g base m:Nat}{bs:List UInt8}{s:Nat->Int}{fuel:Int}{bd br bm:Nat}{bad:Bool}{N nr nm:Nat}{fr fm:Int->Option Value}{v:Value}
  (h:Aud w g base m s fuel bd br bm bad N 0 nr nm (fun _=>none) fr fm v) (hi:ZH w base m bs) (hT:XC w) (hfu:fuel<=1000000) (hN:N<=4000000000000):
  Calls prog 201 #[.pointer (some ⟨g,0,none⟩)] w fun e w'=>e= .returned (.tuple #[])/\∃v' f' n',Aud w' g base m s fuel bd br bm ((bad||(QP bs (s 6) 3 fuel).bad)||!((QP bs (s 6) 3 fuel).ents.all Z1)) (N+37000001) n' nr nm f' fr fm v'/\n'<=18000000/\
   (((bad||(QP bs (s 6) 3 fuel).bad)||!((QP bs (s 6) 3 fuel).ents.all Z1))=false->f'=Xq Jt (QP bs (s 6) 3 fuel).ents)/\Below base w w':=by
 have KB:=DY (fun(V:World) (hS:Below w.heap.size w V)=>O4 (s 6) 3 fuel hfu V (hi.below (hS.mono h.bs)) (D3 h.bs hS.size));have za:=Xo bs (s 6) 3 fuel;have z7:=Jj bs (s 6) 3 fuel;obtain⟨st,zR⟩:=DR (QP bs (s 6) 3 fuel);rw[<-zR] at KB za z7 ⊢;have HP:=DY za.1;have zU:=DY z7;have HA:=DY h;have HG:=DY (DZ (D0.1 h.row).1 (DZ hi (DZ hT hN)));have c1:w.cell? ⟨g,1,none⟩=some (.pointer (some ⟨m,0,none⟩)):=Qa h.row 1 rfl;have c8:w.cell? ⟨g,8,none⟩=some (.int .i64 (s 6)):=Qa h.row 8 rfl;have zJ:w.cell? ⟨g,13,none⟩=some (.int .i64 fuel):=Qa h.row 13 rfl;clear h hi hT zR za z7 hN;generalize s 6=s6 at*;go_enter func201,ntmps201
 go_upto_region 0 with fail
 go_cut [2,20] (fun s2 s20 wx=>ScB w st s2 wx)
 case first=>
  have zW:=(D6 w.heap.size w).drew;have zj:=DY (fun(V V':World) (hb:Below V.heap.size V V') (hS:Below w.heap.size w V/\V.cell? ⟨g,1,none⟩=some (.pointer (some ⟨m,0,none⟩))/\V.cell? ⟨g,8,none⟩=some (.int .i64 s6)/\V.cell? ⟨g,13,none⟩=some (.int .i64 fuel))=>
   (show Below w.heap.size w V'/\V'.cell? ⟨g,1,none⟩=some (.pointer (some ⟨m,0,none⟩))/\V'.cell? ⟨g,8,none⟩=some (.int .i64 s6)/\V'.cell? ⟨g,13,none⟩=some (.int .i64 fuel) from⟨Qb hS.1 hb,Qg hb hS.2.1,Qg hb hS.2.2.1,Qg hb hS.2.2.2⟩))
  have zB:=DY (fun(V:World) (r:Nat) (hr:w.heap.size<=r) (x0 x1 x2 x3 x4:Value) (hS:Below w.heap.size w V/\V.cell? ⟨g,1,none⟩=some (.pointer (some ⟨m,0,none⟩))/\V.cell? ⟨g,8,none⟩=some (.int .i64 s6)/\V.cell? ⟨g,13,none⟩=some (.int .i64 fuel))=>
   (show Below w.heap.size w (((((V.setCell ⟨r,0,none⟩ x0).setCell ⟨r,1,none⟩ x1).setCell ⟨r,2,none⟩ x2).setCell ⟨r,3,none⟩ x3).setCell ⟨r,4,none⟩ x4)/\(((((V.setCell ⟨r,0,none⟩ x0).setCell ⟨r,1,none⟩ x1).setCell ⟨r,2,none⟩ x2).setCell ⟨r,3,none⟩ x3).setCell ⟨r,4,none⟩ x4).cell? ⟨g,1,none⟩=some (.pointer (some ⟨m,0,none⟩))/\(((((V.setCell ⟨r,0,none⟩ x0).setCell ⟨r,1,none⟩ x1).setCell ⟨r,2,none⟩ x2).setCell ⟨r,3,none⟩ x3).setCell ⟨r,4,none⟩ x4).cell? ⟨g,8,none⟩=some (.int .i64 s6)/\(((((V.setCell ⟨r,0,none⟩ x0).setCell ⟨r,1,none⟩ x1).setCell ⟨r,2,none⟩ x2).setCell ⟨r,3,none⟩ x3).setCell ⟨r,4,none⟩ x4).cell? ⟨g,13,none⟩=some (.int .i64 fuel) from by
    have hb:=(D6 w.heap.size V).grown (Zz V r x0 x1 x2 x3 x4) hS.1.size (fun k hk=>by have:=Nd hk;omega);exact⟨hS.1.trans hb,(hb.cell (p:=⟨g,1,none⟩) HG.out.1).trans hS.2.1,(hb.cell (p:=⟨g,8,none⟩) HG.out.1).trans hS.2.2.1,(hb.cell (p:=⟨g,13,none⟩) HG.out.1).trans hS.2.2.2⟩))
  have q9:=DY (show(w.drew.alloc (.cells #[.slice none 0 0, .slice none 0 0, .int .i64 0, .int .i64 0, .slice none 0 0] 140)).heap[w.heap.size]?=some (.cells #[.slice none 0 0, .slice none 0 0, .int .i64 0, .int .i64 0, .slice none 0 0] 140) from heap_alloc_new w.drew _);refine wp_region_held_drew (S:=(fun V=>Below w.heap.size w V/\V.cell? ⟨g,1,none⟩=some (.pointer (some ⟨m,0,none⟩))/\V.cell? ⟨g,8,none⟩=some (.int .i64 s6)/\V.cell? ⟨g,13,none⟩=some (.int .i64 fuel))) (by kernel_rfl) ?_ (fun hHeld=>?_)
  (focus((try dsimp only);(first|exact⟨zW,c1,c8,zJ⟩|with_reducible exact zj.out _ _ zu hHeld|with_reducible exact zj.out _ _ (Qd _ _) zP.out|with_reducible exact zj.out _ _ (Qd _ _) hHeld|exact zB.out w9 w.heap.size (Na _) _ _ _ _ _ hHeld|exact zB.out _ w9.heap.size hHeld.1.size _ _ _ _ _ hHeld)))
  refine QD (.f 0 (.f 1 (.f 2 (.f 3 (.f 4 (.f 5 (.f 6 (.f 7 (.f 8 (.f 9 (.f 10 (.f 11 (.f 12 (.t 13 (.o 14 (.o 15 .e)) 14 (.o 13 (.o 15 .e)))))))))))))))) ?_
  repeat' ((first|(refine QL (v:=?_) (hv:=?_) (h:=?_);rotate_left;(focus(first|(refine .inr ⟨by rfl,?_⟩;rfl)|(refine .inl ⟨by rfl,?_⟩;intro w hSw;(try dsimp only at hSw);(try simp only[D8,D4,D5]);go_simp;try(with_reducible rfl)))))|(refine Qr (h:=?_))|(((first|refine Qx (h:=fun K hK=>?_)|refine Zt (h:=fun K hK=>?_) (h':=fun K hK=>?_))<;>((try simp only[D8,D4,D5]);go_simp))<;>((first|(go_at_call 122;refine(KB.out _ hHeld.1).mono ?_;rintro e w9 ⟨E0,el,E1,B0,bl,B1,dd,lk,F0,fl,F1,rfl,zc,zu⟩;have zk:=DY (zc.mono hHeld.1.size);have zP:=DY (zj.out _ _ zu hHeld);clear zc;first|(have z9:=Qe q9.out zu;have q0:=Qa z9 0 rfl;have q1:=Qa z9 1 rfl;have q2:=Qa z9 2 rfl;have q3:=Qa z9 3 rfl;have q4:=Qa z9 4 rfl;have z0:=Qf z9 0;have z1:=Qf z9 1;have z2:=Qf z9 2;have z3:=Qf z9 3;have z4:=Qf z9 4;have zO:=DY z9;clear z9)|skip)|skip);refine hK.out _ _ ?_ (fun hHeld=>?_);(focus((try dsimp only);(first|exact⟨zW,c1,c8,zJ⟩|with_reducible exact zj.out _ _ zu hHeld|with_reducible exact zj.out _ _ (Qd _ _) zP.out|with_reducible exact zj.out _ _ (Qd _ _) hHeld|exact zB.out w9 w.heap.size (Na _) _ _ _ _ _ hHeld|exact zB.out _ w9.heap.size hHeld.1.size _ _ _ _ _ hHeld)));clear hK K)))<;>(try simp only[Act.put,Nc,Nf,Ng]))
  all_goals (refine Qu ?_;refine wpAnyH_done (by kernel_rfl) ?_ _)
  ·go_wp2;go_meet
   exact⟨hHeld.1,w9.heap.size,E0,el,E1,B0,bl,B1,dd,lk,F0,fl,F1,rfl,heap_alloc_new w9 _,zk.out.keep (Qd w9 _)⟩
  ·go_wp2;go_meet
   exact⟨hHeld.1,w.heap.size,E0,el,E1,B0,bl,B1,dd,lk,F0,fl,F1,rfl,JV zO.out _ _ _ _ _,zk.out.grown zO.out (by decide) (by decide) (by decide) (Zz _ _ _ _ _ _ _)⟩
 case rest=>
  obtain⟨ze,X,E0,el,E1,B0,bl,B1,dd,lk,F0,fl,F1,rfl,hX,zc⟩:=hcut;have z5:=(D6 wc.heap.size wc).drew;have ha:=(HA.out.keep ze).keep z5;have zc:=zc.keep z5;obtain⟨ls,qd,zZ,zX,zS⟩:=zc.f;subst qd;have KF:=Oa (w:=wc.drew) (g:=g) (base:=base) (B:=w.heap.size) (cs:=auC v m s fuel bd br bm) (t:=349) (v:=v) (bad:=bad) (N:=N) ha.row (by decide) (by decide) (by decide) rfl ha.dmg ha.bs (by have:=ha.b0;have:=ha.ge;omega) ha.b0 (fl:=ls) (by have:=HG.out.2.2.2;have:=zc.fb;omega) 2 F0 F1 zZ zX (HG.out.2.2.1.below (Qb ze z5));have x4:=Qa hX 4 rfl;have x0:=Qa hX 0 rfl;have zw:=DY ha;have HX:=DY (Qe hX z5);have zk:=DY zc;have qa:=DY ((Qb ze z5).mono HA.out.bs);have zo:=DY zS;clear ha ze hX zc zZ zX zS c1 c8 zJ z5;go_upto_region 1 with fail
  go_still_tail 5,(by kernel_rfl)
  change wpList _ _ _ _ _ wc.drew;generalize wc.drew=w3 at*;go_wp2_with fail
  refine KF.mono ?_;rintro e w4 ⟨rfl,v4,zT,zN,zs⟩;have zF:=zw.out.added zT zN zs;rw[<-zo.out] at zF;have zV:=zs.row HX.out (Ve HX.out zw.out.row (by decide)) (by decide);have q0:=Qa zV 0 rfl;have zH:=zs.own zw.out.row zk.out.e (by decide) (by decide);have qh:=DY (qa.out.trans (zw.out.below zs));obtain⟨es,zl⟩:=DR (st.ents);rw[<-zl] at zH;have q6:el=es.length:=by rw[zl];exact zk.out.ee
  subst q6;have qg:=DY (show GI g base m s fuel bd br bm (bad||st.bad) (N+ls.length) nr nm fr fm w.heap.size es.length E1 E0 es w 0 w4 from
   ⟨v4,fun _=>none,N+ls.length,0,by simpa using zF,by omega,by omega,fun _=>(keyF_nil Jt).symm,qh.out,zH⟩)
  have HL:=DY (And.intro (rfl:es.length=es.length) (DZ zk.out.eb zk.out.fb));have qb:=DY zl;have qe:=DY (show(Qp es).Pairwise (·<·) by rw[zl];exact HP.out);have qf:=DY (show∀k,k<es.length->(Lit.int .i64 (Zr es k)).wf=true/\(YN es k).length<=reachBytes by rw[zl];exact zU.out);clear KF zT zN zs zF zV zH zl x4 x0 zo;go_wp2_with fail
  go_loopw [30] (fun i wr=>∃(k:Nat),k<=es.length/\i= .int .i64 k/\Hid (GI g base m s fuel bd br bm (bad||st.bad) (N+ls.length) nr nm fr fm w.heap.size es.length E1 E0 es w k wr)) (fun i _=>es.length-(intOf i).toNat)
  case atStart=>exact⟨0,by omega,rfl,qg⟩
  case round=>
   obtain⟨k,hk,rfl,HH⟩:=hrel;have q5:k<=18000000:=by have:=HL.out.1;have:=HL.out.2.1;omega
   have zY:=DY q5;by_cases hlt:k<es.length
   ·obtain⟨vr,f,N',n,hA,hN',hn,hf,hB,hE⟩:=HH.out;have z6:=qf.out k hlt;unfold Zr YN at z6;rw[D9] at z6;obtain⟨y0,y1,y2,hy⟩:∃y0 y1 y2,es[k]=⟨y0,y1,y2⟩:=⟨_,_,_,rfl⟩;have zI:es[k]?=some ⟨y0,y1,y2⟩:=by rw[D1 hlt,hy]
    obtain⟨b,o,rfl,e0,e1,e2⟩:=Gl hE rfl zI;rw[zI] at z6;simp only[N8] at z6;clear zI;have zm:=Lib.hid hlt;obtain⟨wa,zv,zg,zh⟩:=DS wr (.cells #[.int .i64 y0, .string ⟨y1.toArray⟩, .int .i64 y2] 146);have HY:=Lib.hid hy;have zU:=Lib.hid z6;have zb:=Lib.hid (DZ hA (DZ hN' (DZ hn hf)));have z5:=(D6 wa.heap.size wa).drew;have z8:=(hA.keep zg).keep z5;have qc:=Lib.hid (Qb zg z5);have HBA1:=DY zg;obtain⟨z0,z1⟩:=DU zh;have HKA:=DY zh;by_cases hmx:16777215<y0
    ·have KA:=Vl (w:=wa.drew) (g:=g) (base:=base) (cs:=auC vr m s fuel bd br bm) (t:=349) z8.row (by decide) rfl z8.dmg z8.bs (by have:=HG.out.2.2.2;have:=HL.out.2.2;omega) 2 y2 9;have zC:=DY z8;have k2:=Qa (Qe zh z5) 2 rfl;have hd:Z1 (es[k]'hlt)=false:=by rw[hy];unfold Z1;simp;intro h;omega
     have HD:=DY hd;have d1:decide (16777215<y0)=true:=decide_eq_true hmx;clear hA hN' hn hf hB hE zg zh z5 z8 z6 hy hd hmx;go_upto_region 5 with fail
     rw[<-zv];clear zv e0 e1 e2;go_upto_region 6 with fail
     go_still_tail 5,(by kernel_rfl)
     change wpList _ _ _ _ _ wa.drew;generalize wa.drew=wb at*;go_wp2_with fail
     refine KA.mono ?_;rintro e wc2 ⟨rfl,v5,zn,zq,zt⟩;have HF:=DY (GI.no HH.out hlt HD.out qc.out zC.out zb.out.2.2.1 zb.out.2.1 zn (by simpa using zq) zt);clear KA zn zq zt z0 z1 k2;go_wp2;go_roundw
     case rel=>exact⟨k+1,by have:=zm.out;omega,by go_num,HF⟩
     case measure=>have:=zm.out;simp[intOf];omega
    ·obtain⟨d0,dA,dB,dC,zf⟩:=RV y1;have KD:Calls prog 89 #[.string ⟨y1.toArray⟩] wa fun e w'=>e= .returned (.tuple #[.agg #[.int .i64 d0, .int .i64 dA, .int .i64 dB, .int .i64 dC], .int .i64 (rdE QU y1)])/\Below wa.heap.size wa w':=by
      have:=JB y1 wa z6.2;rw[zf] at this;exact this
     have q7:=DY (show Jt (es[k]'hlt)= .agg #[.int .i64 d0, .int .i64 dA, .int .i64 dB, .int .i64 dC] by unfold Jt;rw[hy];dsimp only;rw[zf];rfl);obtain⟨er,zD⟩:=DR (rdE QU y1);rw[<-zD] at KD;have zp:=DY (show Z1 (es[k]'hlt)=decide (er=0) by rw[hy,detOk_of (by omega),zD]);have q8:=DY z6.1;have d1:decide (16777215<y0)=false:=decide_eq_false hmx;have zL:=DY (show(es[k]'hlt).key=y0 by rw[hy]);clear hA hN' hn hf hB hE z5 z8 z6 hy hmx zf zD;go_upto_region 5 with fail
     rw[<-zv];clear zv e0 e1 e2;go_wp2_with fail
     refine KD.mono ?_;rintro e wd ⟨rfl,zz⟩;obtain⟨we,zy,zA,zG⟩:=DS wd (.cells #[.int .i64 d0, .int .i64 dA, .int .i64 dB, .int .i64 dC] 196);have z5:=(D6 we.heap.size we).drew;have ze:=Qb (Qb (Qb zg zz) zA) z5;have z8:=zb.out.1.keep ze;have zd:=Qe (Qe (Qe zh zz) zA) z5;have zi:=Qe zG z5;have k2:=Qa zd 2 rfl;have zC:=DY z8;have zE:=DY zd;have zK:=DY zi;have zr:=DY ze;by_cases he0:er=0
     ·have KA:=UF g 2 y2 we.drew;have hd:Z1 (es[k]'hlt)=true:=by rw[zp.out];exact decide_eq_true he0
      have HD:=DY hd;subst he0;clear KD zz zA zG z5 ze z8 zd zi zg zh z0 z1 hd;go_upto_region 8 with fail
      rw[<-zy];clear zy;go_still_tail 6,(by kernel_rfl)
      change wpList _ _ _ _ _ we.drew;generalize we.drew=wb at*;go_wp2_with fail
      refine KA.mono ?_;rintro e wf ⟨rfl,rfl⟩;have z5:=(D6 wb.heap.size wb).drew;have zx:=zC.out.keep z5;obtain⟨w8,hput,zQ,zM⟩:=zx.d.put (t:=343) underlying343 (by have:=zb.out.2.2.1;have:=zY.out;simp only[maxLen];omega) q8 (.agg #[.int .i64 d0, .int .i64 dA, .int .i64 dB, .int .i64 dC]);have c14:wb.drew.cell? ⟨g,14,none⟩=some (.map (some bd)):=Qa zx.row 14 rfl;have k0:=Qa (Qe zE z5) 0 rfl;obtain⟨j0,j1,j2,j3⟩:=DW (Qe zK z5);have HF:=DY (GI.yes HH hlt HD qe (Qb zr z5) zx zb.out.2.2.1 zb.out.2.1 zb.out.2.2.2 zQ (by rw[zL.out,q7.out]) zM);clear KA z5 zx zQ zM k2;go_upto_region 9 with fail
      go_region
      go_wp2;go_roundw
      case rel=>exact⟨k+1,by have:=zm.out;omega,by go_num,HF⟩
      case measure=>have:=zm.out;simp[intOf];omega
     ·have KA:=Vl (w:=we.drew) (g:=g) (base:=base) (cs:=auC vr m s fuel bd br bm) (t:=349) z8.row (by decide) rfl z8.dmg z8.bs (by have:=HG.out.2.2.2;have:=HL.out.2.2;have:=zb.out.2.1;have:=zY.out;omega) 2 y2 er;have hd:Z1 (es[k]'hlt)=false:=by rw[zp.out];exact decide_eq_false he0
      have HD:=DY hd;have d2:decide (er≠0)=true:=decide_eq_true he0;rw[d2,Bool.or_true] at KA;clear KD zz zA zG z5 ze z8 zd zi zg zh z0 z1 hd he0 d2;go_upto_region 8 with fail
      rw[<-zy];clear zy;go_still_tail 6,(by kernel_rfl)
      change wpList _ _ _ _ _ we.drew;generalize we.drew=wb at*;go_wp2_with fail
      refine KA.mono ?_;rintro e wf ⟨rfl,v5,zn,zq,zt⟩;have HF:=DY (GI.no HH hlt HD zr zC zb.out.2.2.1 zb.out.2.1 zn zq zt);clear KA zn zq zt k2;go_wp2;go_roundw
      case rel=>exact⟨k+1,by have:=zm.out;omega,by go_num,HF⟩
      case measure=>have:=zm.out;simp[intOf];omega
   ·obtain rfl:k=es.length:=by omega
    obtain⟨v5,f5,N5,n5,h1,h2,h3,h4,h5,h6⟩:=HH.out;have HF:=Lib.hid (DZ h1 (DZ h2 (DZ h3 (DZ h4 h5))));clear h1 h2 h3 h4 h5 h6;go_wp2;go_end0
    obtain⟨h1,h2,h3,h4,h5⟩:=HF.out;rw[Nw,qb.out] at h1 h4;exact⟨rfl,v5,f5,n5,h1.moreN (by have:=HL.out;omega),by have:=HL.out;omega,h4,h5⟩
theorem Ey{α β:Type}{f:α->Option β}{l:List α}{x:α}{y:β}{q:List β}(h:l.mapM f=some q)(hx:f x=some y):(l++[x]).mapM f=some (q++[y]):=by
 rw[List.mapM_append,h];simp[hx]
theorem J8{α β:Type}{f:α->Option β}:∀(l:List α),(l.mapM f).isSome=l.all fun x=>(f x).isSome
 |[]=>by simp
 |a::r=>by
  rw[Lq,List.all_cons,<-J8 r];cases f a with
  |none=>rfl
  |some y=>cases r.mapM f<;>rfl
theorem Ex{bs:List UInt8}{data fuel root:Int}{st:WS}(hst:st=QP bs root 2 fuel):ZM bs data fuel root=if st.bad=true then none else st.ents.mapM (ZN data):=by
 unfold ZM Xw;rw[hst]
 split<;>rfl
theorem maps_bad{bs:List UInt8}{data fuel root:Int}{st:WS}(hst:st=QP bs root 2 fuel)(b:Bool):((b||st.bad)||!(st.ents.all fun e=>(ZN data e).isSome))=(b||!(ZM bs data fuel root).isSome):=by
 rw[Ex hst];cases h:st.bad with
 |true=>simp
 |false=>rw[if_neg (by decide),J8];simp
theorem Q3.grown_new{g base:Nat}{a b c:World}{row:Option Nat}(h:Q3 g base a b)(hg:b.grownBy c row)(hr:∀k,row=some k->a.heap.size<=k):Q3 g base a c:=
 ⟨hg.os.trans h.os,hg.tape.trans h.tape,hg.output.trans h.output,D3 h.size hg.size,
  fun k hk hb hn=>(hg.block k (Nh hk h.size) (fun e=>by have:=hr k e.symm;omega)).trans (h.low k hk hb hn),
  fun k hk hn ht=>(hg.block k (Nh hk h.size) (fun e=>by have:=hr k e.symm;omega)).trans (h.other k hk hn ht)⟩
theorem Q3.after{g base:Nat}{a b c:World}(h:Q3 g base a b)(hb:Below b.heap.size b c):Q3 g base a c:=h.trans (Q3.of_below hb)
def GH(g base m:Nat)(s:Nat->Int)(fuel:Int)(bd br bm:Nat)(bad:Bool)(N nd nr nm:Nat)(fd fr fm:Int->Option Value)(data:Int)(B E1:Nat)(E0:Option Addr)(es:List Qv)(w:World)(k:Nat)(u:Value)(W:World):Prop:=
 ∃v N' ms,Aud W g base m s fuel bd br bm (bad||!((es.take k).all fun e=>(ZN data e).isSome)) N' nd nr nm fd fr fm v/\N'<=N+k/\ms.length<=k/\((bad||!((es.take k).all fun e=>(ZN data e).isSome))=false->(es.take k).mapM (ZN data)=some ms)/\
  Q3 g base w W/\W.ownsRow B 146 3 (.slice E0 es.length E1) es.length (ev es)/\W.ownsRow w.heap.size 52 3 u ms.length (mv ms)
section
variable {g base m:Nat} {s:Nat->Int} {fuel:Int} {bd br bm:Nat} {bad:Bool} {N nd nr nm:Nat} {fd fr fm:Int->Option Value} {data:Int} {B E1:Nat} {E0:Option Addr} {es:List Qv} {w W W':World} {k:Nat} {u:Value}
theorem GH.no(h:GH g base m s fuel bd br bm bad N nd nr nm fd fr fm data B E1 E0 es w k u W)(hk:k<es.length)(hd:ZN data es[k]=none){W1:World}(h1:Below W.heap.size W W1)
  {v v':Value} {N':Nat} {ms:List ZO} (ha:Aud W1 g base m s fuel bd br bm (bad||!((es.take k).all fun e=>(ZN data e).isSome)) N' nd nr nm fd fr fm v) (hn:ms.length<=k) (hN:N'<=N+k) (hu:W1.ownsRow w.heap.size 52 3 u ms.length (mv ms))
  (hr:W'.heap[g]?=some (.cells ((auC v m s fuel bd br bm).setIfInBounds 0 v') 349)) (hdm:AuD W' base v' true (N'+1)) (ht:Q3 g base W1 W'):
  GH g base m s fuel bd br bm bad N nd nr nm fd fr fm data B E1 E0 es w (k+1) u W':=by
 obtain⟨_,_,_,hA,-,-,-,h5,h6,-⟩:=h;have hb:(bad||!((es.take (k+1)).all fun e=>(ZN data e).isSome))=true:=by rw[XP _ hk,hd];simp
 refine⟨v',N'+1,ms,?_,by omega,by omega,fun e=>(by rw[hb] at e;cases e),(h5.after h1).trans ht,ht.own ha.row (Qk h6 h1) (by decide) (by decide),ht.own ha.row hu (by decide) (by decide)⟩
 rw[hb];exact ha.added hr hdm ht
theorem GH.yes(h:GH g base m s fuel bd br bm bad N nd nr nm fd fr fm data B E1 E0 es w k u W)(hk:k<es.length){x:ZO}(hd:ZN data es[k]=some x){W1:World}(h1:Below W.heap.size W W1)
  {v:Value} {N':Nat} {ms:List ZO} (ha:Aud W1 g base m s fuel bd br bm (bad||!((es.take k).all fun e=>(ZN data e).isSome)) N' nd nr nm fd fr fm v) (hn:ms.length<=k) (hN:N'<=N+k) (hf:(bad||!((es.take k).all fun e=>(ZN data e).isSome))=false->(es.take k).mapM (ZN data)=some ms)
  (hu:W1.ownsRow w.heap.size 52 3 u ms.length (mv ms)) {u':Value} (hu':W'.ownsRow w.heap.size 52 3 u' (ms.length+1) (mv ms++[.int .i64 x.v, .int .i64 x.b, .int .i64 x.t])) (hg:W1.grownBy W' u.ownBlock):
  GH g base m s fuel bd br bm bad N nd nr nm fd fr fm data B E1 E0 es w (k+1) u' W':=by
 obtain⟨_,_,_,hA,-,-,-,h5,h6,-⟩:=h;have hb:(bad||!((es.take (k+1)).all fun e=>(ZN data e).isSome))=(bad||!((es.take k).all fun e=>(ZN data e).isSome)):=by rw[XP _ hk,hd];simp
 have ht:Q3 g base w W':=(h5.after h1).grown_new hg fun i hi=>(hu.lt i hi).1
 have e6:=Qk h6 h1;refine⟨v,N',ms++[x],?_,by omega,by simp;omega,fun e=>?_,ht,e6.kept hg (Zk e6 hu (by decide)),?_⟩
 ·rw[hb];have z0:W'.heap[g]?=some (.cells (auC v m s fuel bd br bm) 349):=(hg.block g (D0.1 ha.row).1 (Qi ha.row (by decide) hu)).trans ha.row;obtain⟨dl,d1,d2,d3⟩:=ha.dmg;exact⟨z0,⟨dl,d1.kept hg (Zk d1 hu (by decide)),d2,d3⟩,ha.d.kept hg (ha.d.not_row hu),ha.r.kept hg (ha.r.not_row hu),ha.m.kept hg (ha.m.not_row hu),D3 ha.bs hg.size,ha.b0,ha.ge,ha.de,ha.re,ha.me,ha.dr,ha.dm,ha.rm⟩
 ·rw[hb] at e;rw[Nl hk];exact Ey (hf e) hd
 ·rw[D7,Lj,Ev];exact hu'
end
section
open Go.WideMaps Go.Maps
theorem aids_any{w:World}{g base m:Nat}{s:Nat->Int}{fuel:Int}{bd br bm:Nat}{bad:Bool}{N nd nr nm:Nat}{fd fr fm:Int->Option Value}{v:Value}
  (h:Aud w g base m s fuel bd br bm bad N nd nr nm fd fr fm v) (zF:nd<=18000000) (zN:nr<=18000000):
  Calls prog 246 #[.pointer (some ⟨g,0,none⟩)] w fun e w'=>∃A c,∃ids:List Int,e= .returned (.slice A ids.length c)/\w'.ownsRow w.heap.size 3 1 (.slice A ids.length c) ids.length (iv ids)/\Below w.heap.size w w'/\
   ids.Pairwise (·<·)/\(∀x,x∈ids↔(fd x).isSome=true∨(fr x).isSome=true)/\ids.length<=36000000:=by
 obtain⟨js,zD,zJ,zL,zA⟩:=info_parts Tryz.infoIntA;obtain⟨Dd,zQ,zO,zG⟩:=h.d.owns;have zx:=DY zG;have zr:=DY (DZ zO (DZ zF zN));have HA:=DY h;have q2:w.cell? ⟨g,14,none⟩=some (.map (some bd)):=Qa h.row 14 rfl;have HDB:=DY h.de;clear h zG zO zF zN;go_enter func246,ntmps246
 go_upto_region 2 with fail
 go_wp2_with (at_range;refine wpList_range_own _ rfl _ 343 rfl 3 196 intK underlying343 X6 bd nd Dd rfl zQ ?_;intro w0 zg za q6)
 have q0:=DY (show RgI bd w.heap.size nd Dd fd [] w.heap.size w (.slice none 0 0) w0 from
  ⟨_,_,[],zg,by have:=zr.out.1;simpa using this,Nb _ _ _ _,fun x hx=>(by cases hx),fun x hx=> .inr (by rw[zx.out];exact hx),fun x hx=>by rw[zx.out] at hx;exact hx,⟨za.os,za.tape,za.output,za.size,fun i hi=>za.block i hi (by simp)⟩⟩)
 clear zg za q6 zQ q2;go_frame
 go_loopw [3] (fun u wr=>Hid (RgI bd w.heap.size nd Dd fd [] w.heap.size w u wr)) (fun u wr=>wr.rangeLeft bd w.heap.size)
 case atStart=>exact q0
 case round=>
  obtain⟨left,zz,l,z7,h2,h3,h4,h5,h6,h7⟩:=hrel.out;rw[Np] at h3;have zo:=HA.out.keep h7;have c15:wr.cell? ⟨g,15,none⟩=some (.map (some br)):=Qa zo.row 15 rfl;obtain⟨Dr,zC,zI,zE⟩:=zo.r.owns;have zR:=DY zE;have zX:=DY zI;obtain⟨u0,uc,rfl⟩:=QN h3;have zl:=DY (show∀(x:Int) (w1 w3:World) (z0:Nat) (o:Obj) (u':Value),left (.int .i64 x)=true->w1.ranges prog 3 X6 bd w.heap.size nd Dd (fun z=>left z&&!z.sameKey (.int .i64 x)) z0->z0<zz->wr.grownBy w1 (some w.heap.size)->w3.ownsRow w.heap.size 3 1 u' (l.length+1) (iv l++[.int .i64 x])->(w1.alloc o).grownBy w3 (Value.slice u0 l.length uc).ownBlock->RgI bd w.heap.size nd Dd fd [] w.heap.size w u' w3/\w3.rangeLeft bd w.heap.size=z0 from
   fun x w1 w3 z0 o u' hx hr hl hg ho hg3=>RgI.step (l0:=[]) z7 h2 (by rw[Np];exact h3) h4 h5 h6 h7 hx (Na _) h7.size hr hl hg o (by rw[Np];exact ho) hg3)
  have zk:=DY (show∀w1,wr.grownBy w1 (some w.heap.size)->w1.ownsRow w.heap.size 3 1 (.slice u0 l.length uc) l.length (iv l) from fun w1 hg=>RgI.own1 z7 h3 hg);have hll:l.length<=18000000:=by have:=zr.out;omega
  have zB:=DY h7.size;have q1:=DY z7.left_eq;have z2:=DY (And.intro h3 (DZ h4 (DZ h5 (DZ h6 h7))));clear h2 h3 h4 h5 h6 h7 zo zI zE;go_wp2_with (first
   |(at_next;refine wpList_next_ranges wr rfl _ rfl 3 intK X6 (Value.int .i64) id int_inv G5 bd w.heap.size nd Dd left zz rfl z7 ?_ ?_;(focus(intro zY zf;have zV:=DY zf;clear zf));rotate_left;(focus(intro x c kl y w1 z0 z4 zh hR zq z5 zc z8 zp zW;obtain⟨x',hx',rfl,zT⟩:=Maps.keyOf_int_inv underlying3 z4;cases hx';have zs:=(zk.out w1 z8).alloc (.cells #[.int .i64 x] 3);have zt:w.heap.size<=(w1.alloc (.cells #[.int .i64 x] 3)).heap.size:=D3 zB (D3 z8.size (Qd w1 _).size);have z6:=DY (DZ zh (DZ z5 (DZ zc z8)));clear z4 zh hR zq z5 zc z8 zp));rotate_left)
   |(at_range;refine wpList_range_own _ rfl _ 344 rfl 3 3 intK underlying344 X6 br nr Dr rfl zC ?_;intro w5 zj z9 q7)
   |(at_builtin;refine Qq _ rfl (.tmp 15) (.tmp 17) _ rfl w.heap.size 1 3 js _ 8 underlying68 zD zJ zL zA rfl (by decide) (.slice u0 l.length uc) l.length (iv l) rfl zs _ _ 1 1 [.int .i64 x] rfl rfl (Qh.new w1 [.int .i64 x] 3 (0,0)) (by simp[Value.oneCell']) (by simp only[maxLen];omega) (by omega) zt ?_;intro A7 c7 w7 z1 zi zn _;have HF:=DY (zl.out x w1 w7 z0 _ _ z6.out.1 z6.out.2.1 z6.out.2.2.1 z6.out.2.2.2 z1 zi);clear z1 zi zn))
  case roundEnd=>
   refine⟨DY HF.out.1,?_⟩;rw[HF.out.2,q1.out];exact z6.out.2.2.1
  obtain⟨h3,h4,h5,h6,h7⟩:=z2.out;have zZ:=DY (show∀x,x∈l↔(fd x).isSome=true from fun x=>⟨h4 x,fun hx=>(h5 x hx).resolve_right (fun e=>by rw[zV.out] at e;cases e)⟩);have zm:Below wr.heap.size wr w5:=⟨z9.os,z9.tape,z9.output,z9.size,fun i hi=>z9.block i hi (by simp)⟩
  have zH:=QT h3 zm;have q3:=DY (show RgI br wr.heap.size nr Dr fr l w.heap.size w (.slice u0 l.length uc) w5 from
   ⟨_,_,[],zj,by have:=zX.out;simpa using this,by rw[NZ];exact zH,fun x hx=>(by cases hx),fun x hx=> .inr (by rw[zR.out];exact hx),fun x hx=>by rw[zR.out] at hx;exact hx,Qb h7 zm⟩)
  clear zj z9 q7 zm zH h3 h4 h5 h6 h7 zl zk z2 z7 zC;clear hrel;obtain⟨wq,q4⟩:=DR wr;subst q4;go_frame
  go_loopw [3] (fun u wr2=>Hid (RgI br wq.heap.size nr Dr fr l w.heap.size w u wr2)) (fun u wr2=>wr2.rangeLeft br wq.heap.size)
  case atStart=>exact q3
  case round=>
   obtain⟨z3,zd,l2,z7,h2,h3,h4,h5,h6,h7⟩:=hrel.out;obtain⟨u1,ze,rfl⟩:=QN h3;have zl:=DY (show∀(x:Int) (w1 w3:World) (z0:Nat) (o:Obj) (u':Value),z3 (.int .i64 x)=true->w1.ranges prog 3 X6 br wq.heap.size nr Dr (fun z=>z3 z&&!z.sameKey (.int .i64 x)) z0->z0<zd->wr.grownBy w1 (some wq.heap.size)->w3.ownsRow w.heap.size 3 1 u' ((l++l2).length+1) (iv (l++l2)++[.int .i64 x])->(w1.alloc o).grownBy w3 (Value.slice u1 (l++l2).length ze).ownBlock->RgI br wq.heap.size nr Dr fr l w.heap.size w u' w3/\w3.rangeLeft br wq.heap.size=z0 from
    fun x w1 w3 z0 o u' hx hr hl hg ho hg3=>RgI.step z7 h2 h3 h4 h5 h6 h7 hx zB h7.size hr hl hg o ho hg3)
   have zk:=DY (show∀w1,wr.grownBy w1 (some wq.heap.size)->w1.ownsRow w.heap.size 3 1 (.slice u1 (l++l2).length ze) (l++l2).length (iv (l++l2)) from fun w1 hg=>RgI.own1 z7 h3 hg);have zU:(l++l2).length<=36000000:=by have:=zr.out;rw[D7];omega
   have zu:=DY z7.left_eq;have zb:=DY h7.size;have z2:=DY (DZ h3 (DZ h4 (DZ h5 (DZ h6 h7))));have KS:=sortI_any h3 (by omega);clear h2 h3 h4 h5 h6 h7;generalize hll2:l++l2=ll at*;have q5:=DY hll2;clear hll2;go_wp2_with (first
    |(at_next;refine wpList_next_ranges wr rfl _ rfl 3 intK X6 (Value.int .i64) id int_inv G5 br wq.heap.size nr Dr z3 zd rfl z7 ?_ ?_;(focus(intro zY zf;have HL0':=DY zf;clear zf));rotate_left;(focus(intro x c kl y w1 z0 z4 zh hR zq z5 zc z8 zp zW;obtain⟨x',hx',rfl,zT⟩:=Maps.keyOf_int_inv underlying3 z4;cases hx';have zs:=(zk.out w1 z8).alloc (.cells #[.int .i64 x] 3);have zt:w.heap.size<=(w1.alloc (.cells #[.int .i64 x] 3)).heap.size:=D3 zb (D3 z8.size (Qd w1 _).size);have z6:=Lib.hid (DZ zh (DZ z5 (DZ zc z8)));clear z4 zh hR zq z5 zc z8 zp));rotate_left)
    |(at_builtin;refine Qq _ rfl (.tmp 28) (.tmp 30) _ rfl w.heap.size 1 3 js _ 8 underlying68 zD zJ zL zA rfl (by decide) (.slice u1 ll.length ze) ll.length (iv ll) rfl zs _ _ 1 1 [.int .i64 x] rfl rfl (Qh.new w1 [.int .i64 x] 3 (0,0)) (by simp[Value.oneCell']) (by simp only[maxLen];omega) (by omega) zt ?_;intro A7 c7 w7 z1 zi zn _;have HF:=DY (zl.out x w1 w7 z0 _ _ z6.out.1 z6.out.2.1 z6.out.2.2.1 z6.out.2.2.2 z1 zi);clear z1 zi zn))
   case roundEnd=>
    refine⟨DY HF.out.1,?_⟩;rw[HF.out.2,zu.out];exact z6.out.2.2.1
   refine KS.mono ?_;rintro e w6 ⟨rfl,zP,zK⟩;have zv:=O1 ll;have KC:=DF (w:=w6) (base:=w.heap.size) (u:= .slice u1 ll.length ze) (l:=YU ll) (by rw[zv];exact zP) (by rw[zv];omega);have zS:=DY (z2.out.2.2.2.2.grown zK zb (fun i hi=>(z2.out.1.lt i hi).1));have zw:=DY (show∀i,(Value.slice u1 ll.length ze).ownBlock=some i->w.heap.size<=i from fun i hi=>(z2.out.1.lt i hi).1);clear KS zP zK zv;go_wp2_with fail
   refine KC.mono ?_;rintro e w8 ⟨A,c,rfl,zM,zy⟩;have HX:=DY (DZ zM (zS.out.grown zy zS.out.size zw));clear KC zM zy;go_wp2;go_ret;obtain⟨i1,i2,i3⟩:=EE ll;refine⟨A,c,idsL ll,rfl,HX.out.1,HX.out.2,i1,fun x=>?_,D3 i3 zU⟩
   rw[i2,<-q5.out,NY,zZ.out];have h4:=z2.out.2.1;have h5:=z2.out.2.2.1;exact⟨fun h=>h.imp id (h4 x),fun h=>h.imp id (fun hx=>(h5 x hx).resolve_right (fun e=>by rw[HL0'.out] at e;cases e))⟩
end
end Go.Proofs.YtijcgllddnpmhaaGreatDoor
