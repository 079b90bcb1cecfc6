/- TopSound: lemmas, part 31. -/
import Derived.Test.YtijcgllddnpmhaaGreatDoorTopSoundT28
set_option maxRecDepth 100000
set_option maxHeartbeats 16000000
set_option linter.all false
namespace Go.Proofs.YtijcgllddnpmhaaGreatDoor
open Go.RowKit Go.Proofs.Tryz
section
open Go.RowKit Go.Shelf
attribute [local go_sem] Oper.semAt_some
theorem Z7{fn:Func}{p u:Tmp}{ty ty2:TypeId}(h:fn.results=#[.cell p ty, .cell u ty2])(tmps:Array Value)(P:Program)(w:World):
  (results fn tmps).run P w=
   ((asAddr (tmps.getD p undef)).run P w).andThen fun a w₁=>((loadVar ty a).run P w₁).andThen fun x w₂=>((asAddr (tmps.getD u undef)).run P w₂).andThen fun b w₃=>((loadVar ty2 b).run P w₃).andThen fun y w₄=> .ok (.tuple #[x,y]) w₄:=by
 simp only[results,h];simp[Sem.run_bind,Result.andThen]
def GivesDevs(q:Option (List Q4))(w:World)(e:Ending)(w':World):Prop:=
 Below w.heap.size w w'/\((∃ls v,q=some ls/\e= .returned (.tuple #[v, .nilIface])/\Qt w' w.heap.size v ls)∨(q=none/\∃v,e= .returned (.tuple #[.slice none 0 0,v])/\Qy 43 w' w'.heap.size v))
theorem ZB{w:World}{k:Nat}(h:k=w.heap.size)(o:Obj):(w.alloc o).heap[k]?=some o:=by subst h;exact heap_alloc_new w o
def YR(W:World)(n₀ b o:Nat)(l:List Qv):Prop:=
 b<n₀/\∀(j:Nat) x,l[j]?=some x->W.cell? ⟨b,o+j*3,none⟩=some (.int .i64 x.key)/\W.cell? ⟨b,o+j*3+1,none⟩=some (.string ⟨x.val.toArray⟩)/\W.cell? ⟨b,o+j*3+2,none⟩=some (.int .i64 x.at_)
theorem YR.keys{W:World}{n₀ b o:Nat}{l:List Qv}(h:YR W n₀ b o l):Oi W n₀ b o l:=⟨h.1,fun j x hj=>(h.2 j x hj).1⟩
theorem YR.below{W W':World}{n₀ b o:Nat}{l:List Qv}(h:YR W n₀ b o l)(hb:Below n₀ W W'):YR W' n₀ b o l:=
 ⟨h.1,fun j x hj=>by
  obtain⟨h1,h2,h3⟩:=h.2 j x hj;exact⟨(hb.cell (p:=⟨b,o+j*3,none⟩) h.1).trans h1,(hb.cell (p:=⟨b,o+j*3+1,none⟩) h.1).trans h2,(hb.cell (p:=⟨b,o+j*3+2,none⟩) h.1).trans h3⟩⟩
theorem YR.more{W:World}{n₀ n₁ b o:Nat}{l:List Qv}(h:YR W n₀ b o l)(hn:n₀<=n₁):YR W n₁ b o l:=⟨Nh h.1 hn,h.2⟩
theorem YR.of_own{W:World}{base n c:Nat}{A:Option Addr}{l:List Qv}(h:W.ownsRow base 146 3 (.slice A n c) n (ev l))(hn:n=l.length)(hw:0<W.heap.size):∃b o,YR W W.heap.size b o l/\(0<l.length->A=some ⟨b,o,none⟩)/\n<=c:=by
 rcases h.2 with⟨hv,hz⟩|⟨g,cap,cur,hv,hb,hg,hnc,_⟩
 ·injection hv with h1 h2 h3
  refine⟨0,0,⟨hw,fun j x hj=>?_⟩,fun h=>by omega,by omega⟩
  have z0:l.length=0:=by omega
  rw[NL z0] at hj;cases hj
 ·injection hv with h1 h2 h3
  subst h1;have hc:=h.cells (g:=g) rfl;refine⟨g,0,⟨(D0.1 hg).1,fun j p hj=>?_⟩,fun _=>rfl,by omega⟩
  obtain⟨t0,t1,t2⟩:=ev_get l j p hj;have q0:=hc _ _ t0;have q1:=hc _ _ t1;have q2:=hc _ _ t2;rw[Zo,ND] at q0 q1 q2;rw[ND];exact⟨q0,q1,q2⟩
def lacks(p:Option Nat×Option Nat):Prop:=p.1=none∨p.2=none
theorem pairs_none{D T:List Qv}{k:Nat}(h:∃p∈(Q8 D T (D.length+T.length) 0 0).take k,lacks p):¬Qp D=Qp T:=fun he=>by
 obtain⟨p,hp,hl⟩:=h;rw[Jk D T _ 0 he (by omega)] at hp;have hm:=Ln hp;rw[LA] at hm;obtain⟨i,-,rfl⟩:=hm;rcases hl with h|h<;>cases h
theorem pairs_all{D T:List Qv}(h:∀p∈Q8 D T (D.length+T.length) 0 0,¬lacks p):Qp D=Qp T:=by
 rcases Classical.em (Qp D=Qp T) with h1|h1
 ·exact h1
 ·obtain⟨p,hp,hl⟩:=OD D T (D.length+T.length) 0 (by omega) (fun i hi=>by omega) (by omega) (by omega) h1;exact absurd hl (h p hp)
theorem devices_any{w:World}{base m:Nat}{bs:List UInt8}(hi:ZH w base m bs)(hbs:base<=w.heap.size)(top details data fuel:Int)(hfu:fuel<=1000000):
  Calls prog 68 #[.pointer (some ⟨m,0,none⟩), .int .i64 top, .int .i64 details, .int .i64 data, .int .i64 fuel] w (GivesDevs (QY bs top details data fuel) w):=by
 obtain⟨q,hq⟩:=DR (QY bs top details data fuel);rw[<-hq];refine callsIn_wide (n:=6).1 ?_;have KW:=DY (fun(root tree:Int) (W:World) (hb:Below w.heap.size w W)=>Rt (bs:=bs) (m:=m) (base:=base) root tree fuel hfu W (hi.below (hb.mono hbs)) (D3 hbs hb.size));have yk:=DY (fun(root tree:Int)=>Xo bs root tree fuel);have qO:=DY (fun(root tree:Int)=>Ur bs root tree fuel);have yv:=DY (fun(W:World) (hb:Below w.heap.size w W) (g:Nat) (ze k1:Int) (v1:List UInt8) (a1 k2:Int) (v2:List UInt8) (a2:Int)=>ldevice_any (hi.below (hb.mono hbs)) (Nat.le_trans hbs hb.size) g data fuel ze k1 v1 a1 k2 v2 a2 hfu);obtain⟨sD,qA⟩:=DR (QP bs details 3 fuel);obtain⟨sT,qn⟩:=DR (QP bs top 1 fuel);have HQ:=DY (show q=if sD.bad=true then none else if sT.bad=true then none else if sD.ents.length<=4096/\Qp sD.ents=Qp sT.ents then ZU bs data fuel 0 (sD.ents.zip sT.ents) else none by
  rw[hq];unfold QY Xw;rw[<-qA,<-qn];by_cases h1:sD.bad=true
  ·rw[if_pos h1,if_pos h1];rfl
  ·rw[if_neg h1,if_neg h1];by_cases h2:sT.bad=true
   ·rw[if_pos h2,if_pos h2];rfl
   ·rw[if_neg h2,if_neg h2];rfl)
 have jJ:=DY (show Vm sD.ents by rw[qA];exact qO.out _ _);have yd:=DY (show Vm sT.ents by rw[qn];exact qO.out _ _);have KD:=DY (show∀(W:World) (hb:Below w.heap.size w W),_ from fun W hb=>KW.out details 3 W hb);have KT:=DY (show∀(W:World) (hb:Below w.heap.size w W),_ from fun W hb=>KW.out top 1 W hb);rw[<-qA] at KD;rw[<-qn] at KT;clear hq qA qn KW qO yk hi;have KL:=DY (fun(no n:Int) (hn:n≠0) W=>Rl no n hn W);obtain⟨N,hN⟩:=DR (w.heap.size);obtain⟨w1,zB⟩:∃w1,w1=((((w.alloc (.cells #[.int .i64 top] 3)).alloc (.cells #[.int .i64 details] 3)).alloc (.cells #[.slice none 0 0] 26)).alloc (.cells #[.nilIface] 32)):=⟨_,rfl⟩;have je:=DY (show Below w.heap.size w w1 by
  rw[zB];exact Qb (Qb (QG w _ _) (Qd _ _)) (Qd _ _))
 have t1:w1.heap[w.heap.size]?=some (.cells #[.int .i64 top] 3):=by
  rw[zB];exact Qj (Qj (Qj (heap_alloc_new w _) _) _) _
 have d1:w1.heap[w.heap.size+1]?=some (.cells #[.int .i64 details] 3):=by
  rw[zB];exact Qj (Qj (ZB (by simp) _) _) _
 have r1:w1.heap[w.heap.size+2]?=some (.cells #[.slice none 0 0] 26):=by
  rw[zB];exact Qj (ZB (by simp) _) _
 have e1:w1.heap[w.heap.size+3]?=some (.cells #[.nilIface] 32):=by
  rw[zB];exact ZB (by simp) _
 have ct:=Qa t1 0 rfl;have cd:=Qa d1 0 rfl;refine callsIn_of_wp_marks func68 rfl trivial ?_ rfl;simp only[ntmps68,Ny,No,List.length_nil,N9,La,NJ,NK,NR,NM,Np,NH];refine wpIn_wide.2 ?_;have jR:=DY t1;have jL:=DY d1;have jV:=DY r1;have jY:=DY e1;clear t1 d1 r1 e1 hN;rw[zB] at ct cd;go_wp2_with fail
 rw[<-zB] at ct cd ⊢;clear zB;refine(KD.out w1 je).mono ?_;rintro e w2 ⟨E0,el,E1,B0,bl,B1,dd,lk,F0,fl,F1,v,rfl,qk,zk⟩;obtain⟨w3,q9,za,-⟩:=DS w2 (.cells #[.slice E0 el E1, .slice B0 bl B1, .int .i64 dd, .int .i64 lk, .slice F0 fl F1] 140);have qQ:=DY (Qb (Qb je zk) za);have HB13:=DY (Qb zk za);have qU:w3.heap[w2.heap.size]?=some (.cells #[.slice E0 el E1, .slice B0 bl B1, .int .i64 dd, .int .i64 lk, .slice F0 fl F1] 140):=by rw[q9];exact heap_alloc_new w2 _
 have jd:=DY qU;have qK:=DY (qk.keep za);have jm:=DY (Qe (Qe jR zk) za);have ju:=DY (Qe (Qe jL zk) za);have zU:=DY (Qe (Qe jV zk) za);have qt:=DY (Qe (Qe jY zk) za);have HX03:=DY (qU);replace ct:=Qa jm 0 rfl;replace cd:=Qa ju 0 rfl;clear qk zk za qU;have zW:v= .nilIface∨∃t x,v= .iface t x:=qK.out.form;go_upto_region 2 with fail
 rw[<-q9];clear q9;by_cases hbad:sD.bad=true
 ·obtain⟨h1,h2⟩:sD.bad=true/\Qy 40 w3 w3.heap.size v:=by
   rcases qK.out with⟨a,_⟩|h
   ·rw[hbad] at a;cases a
   ·exact h
  have zO:=DY (show q=none by rw[HQ.out,if_pos h1]);obtain⟨vt,vx,rfl⟩:=h2.form;have zR:=DY h2;clear h1 h2 hbad ct cd;have s2:=Qa zU 0 rfl;have s3:=Qa qt 0 rfl;have f2:=Qf zU 0;have f3:=Qf qt 0;go_wp2;refine⟨.tuple #[.slice none 0 0, .iface vt vx],(by rw[Z7 rfl];go_simp),?_⟩;have g2:=grownBy_setCell' w3 (w.heap.size+2) (.slice none 0 0);have r3:(w3.setCell ⟨w.heap.size+2,0,none⟩ (.slice none 0 0)).heap[w.heap.size+3]?=some (.cells #[.nilIface] 32):=(heap_setCell_other _ _ _ _ (by simp)).trans qt;have g3:=grownBy_setCell' (w3.setCell ⟨w.heap.size+2,0,none⟩ (.slice none 0 0)) (w.heap.size+3) (.iface vt vx);exact⟨(qQ.out.setCell (p:=⟨w.heap.size+2,0,none⟩) (by simp) _).setCell (p:=⟨w.heap.size+3,0,none⟩) (by simp) _, .inr ⟨zO.out,_,rfl,((((zR.out.up (by decide)).grown zU.out (by decide) g2).more g2.size).grown r3 (by decide) g3).more g3.size⟩⟩
 obtain⟨b1,rfl,jW,qH,jp⟩:sD.bad=false/\v= .nilIface/\el=sD.ents.length/\w3.ownsRow w1.heap.size 146 3 (.slice E0 el E1) el (ev sD.ents)/\el<=18000000:=by
  rcases qK.out with h|⟨a,_⟩
  ·exact h
  ·exact absurd a hbad
 subst jW;clear hbad;go_wp2_with fail
 refine(KT.out w3 qQ).mono ?_;rintro e w4 ⟨X0,xl,X1,C0,cl,C1,ee,lt,G0,gl,G1,v,rfl,qk,zD⟩;obtain⟨w5,jb,z8,-⟩:=DS w4 (.cells #[.slice X0 xl X1, .slice C0 cl C1, .int .i64 ee, .int .i64 lt, .slice G0 gl G1] 140);have qz:=DY (Qb (Qb qQ zD) z8);have zZ:=DY (Qb zD z8);have jv:w5.heap[w4.heap.size]?=some (.cells #[.slice X0 xl X1, .slice C0 cl C1, .int .i64 ee, .int .i64 lt, .slice G0 gl G1] 140):=by rw[jb];exact heap_alloc_new w4 _
 have qw:=DY jv;have qM:=DY (qk.keep z8);have jk:=DY (Qe (Qe jm zD) z8);have jx:=DY (Qe (Qe ju zD) z8);have zT:=DY (Qe (Qe zU zD) z8);have zr:=DY (Qe (Qe qt zD) z8);have qj:=DY (Qe (Qe jd zD) z8);replace ct:=Qa jk 0 rfl;replace cd:=Qa jx 0 rfl;clear qk zD z8 jv;have zW:v= .nilIface∨∃t x,v= .iface t x:=qM.out.form;go_upto_region 5 with fail
 rw[<-jb];clear jb;by_cases hbad:sT.bad=true
 ·obtain⟨h1,h2⟩:sT.bad=true/\Qy 40 w5 w5.heap.size v:=by
   rcases qM.out with⟨a,_⟩|h
   ·rw[hbad] at a;cases a
   ·exact h
  have zO:=DY (show q=none by rw[HQ.out,if_neg (by rw[b1];decide),if_pos h1]);obtain⟨vt,vx,rfl⟩:=h2.form;have zR:=DY h2;clear h1 h2 hbad ct cd;have s2:=Qa zT 0 rfl;have s3:=Qa zr 0 rfl;have f2:=Qf zT 0;have f3:=Qf zr 0;go_wp2;refine⟨.tuple #[.slice none 0 0, .iface vt vx],(by rw[Z7 rfl];go_simp),?_⟩;have g2:=grownBy_setCell' w5 (w.heap.size+2) (.slice none 0 0);have r3:(w5.setCell ⟨w.heap.size+2,0,none⟩ (.slice none 0 0)).heap[w.heap.size+3]?=some (.cells #[.nilIface] 32):=(heap_setCell_other _ _ _ _ (by simp)).trans zr;have g3:=grownBy_setCell' (w5.setCell ⟨w.heap.size+2,0,none⟩ (.slice none 0 0)) (w.heap.size+3) (.iface vt vx);exact⟨(qz.out.setCell (p:=⟨w.heap.size+2,0,none⟩) (by simp) _).setCell (p:=⟨w.heap.size+3,0,none⟩) (by simp) _, .inr ⟨zO.out,_,rfl,((((zR.out.up (by decide)).grown zT.out (by decide) g2).more g2.size).grown r3 (by decide) g3).more g3.size⟩⟩
 obtain⟨b2,rfl,yy,jE,jj⟩:sT.bad=false/\v= .nilIface/\xl=sT.ents.length/\w5.ownsRow w3.heap.size 146 3 (.slice X0 xl X1) xl (ev sT.ents)/\xl<=18000000:=by
  rcases qM.out with h|⟨a,_⟩
  ·exact h
  ·exact absurd a hbad
 subst yy;clear hbad;have q6:=Qk qH zZ;have qR:=DY (show q=if sD.ents.length<=4096/\Qp sD.ents=Qp sT.ents then ZU bs data fuel 0 (sD.ents.zip sT.ents) else none by rw[HQ.out,if_neg (by rw[b1];decide),if_neg (by rw[b2];decide)]);clear b1 b2;have qD:=Qa (Qe jd zZ) 0 rfl;have qv:=Qa qw 0 rfl;by_cases hlen:sD.ents.length<=4096
 rotate_left
 ·have zO:=DY (show q=none by rw[qR.out,if_neg (fun h=>hlen h.1)]);have yC:decide ((4096:Int)<(sD.ents.length:Int))=true:=decide_eq_true (by omega);have yo:decide (4096<sD.ents.length)=true:=decide_eq_true (by omega);have dl3:4096<sD.ents.length:=by omega
  clear hlen;go_wp2_with fail
  refine(KL.out details 2 (by decide) w5).mono ?_;rintro e w6 ⟨v,rfl,hv,qC⟩;obtain⟨vt,vx,rfl⟩:=hv.form;have zR:=DY hv;have yF:=DY (Qb qz qC);have qX:=DY (Qe zT qC);have qN:=DY (Qe zr qC);clear hv qC ct cd qD qv;have s2:=Qa qX 0 rfl;have s3:=Qa qN 0 rfl;have f2:=Qf qX 0;have f3:=Qf qN 0;go_wp2;refine⟨.tuple #[.slice none 0 0, .iface vt vx],(by rw[Z7 rfl];go_simp),?_⟩;have g2:=grownBy_setCell' w6 (w.heap.size+2) (.slice none 0 0);have r3:(w6.setCell ⟨w.heap.size+2,0,none⟩ (.slice none 0 0)).heap[w.heap.size+3]?=some (.cells #[.nilIface] 32):=(heap_setCell_other _ _ _ _ (by simp)).trans qN;have g3:=grownBy_setCell' (w6.setCell ⟨w.heap.size+2,0,none⟩ (.slice none 0 0)) (w.heap.size+3) (.iface vt vx);exact⟨(yF.out.setCell (p:=⟨w.heap.size+2,0,none⟩) (by simp) _).setCell (p:=⟨w.heap.size+3,0,none⟩) (by simp) _, .inr ⟨zO.out,_,rfl,((((zR.out.up (by decide)).grown qX.out (by decide) g2).more g2.size).grown r3 (by decide) g3).more g3.size⟩⟩
 have yC:decide ((4096:Int)<(sD.ents.length:Int))=false:=decide_eq_false (by omega);have yo:decide (4096<sD.ents.length)=false:=decide_eq_false (by omega);have jo:=DY hlen;have yf:=DY q6;have jM:=DY jE;have jf:=DY jj;have jF:=DY jp;clear q6 qH hlen jE jj jp;go_wp2_with fail
 refine(callsIn_wide.1 (pairs_in 6 E0 X0 sD.ents.length sT.ents.length E1 X1 w5)).mono ?_;rintro e w6 ⟨rfl,qi⟩;have qc:0<w5.heap.size:=by have:=(D0.1 qw).1;omega
 obtain⟨ab,ao,qS,qJ,ja⟩:=YR.of_own yf rfl qc;obtain⟨tb,z7,qP,j5,DU⟩:=YR.of_own jM rfl qc;have yq:=DY qS;have jN:=DY qP;have qx:=DY (DZ qJ (DZ ja (DZ j5 DU)));have zM:=DY (show Below w5.heap.size w5 w6 by rw[qi];exact QG w5 _ _);have jZ:=DY (show w6.heap[w5.heap.size]?=some (.cells #[.slice E0 sD.ents.length E1] 137) by rw[qi];exact Qj (heap_alloc_new w5 _) _);have yB:=DY (show w6.heap[w5.heap.size+1]?=some (.cells #[.slice X0 sT.ents.length X1] 137) by rw[qi];exact ZB (by simp) _);have hsz6:w6.heap.size=w5.heap.size+2:=by rw[qi];simp
 have qZ:=DY (Kr 5 (by omega) w5.heap.size (w5.heap.size+1) w5.heap.size ab ao tb z7 sD.ents sT.ents jF jf (by omega) w6 (by omega) (by omega)
  ⟨Lb _,E0,E1,jZ.out,qJ,ja⟩ ⟨Lb _,X0,X1,yB.out,j5,DU⟩ (Na _) (by omega) (qS.below zM).keys (qP.below zM).keys)
 have ye:=DY (@pairs_all sD.ents sT.ents);have yA:=DY (fun k=> @pairs_none sD.ents sT.ents k);have HNM:w.heap.size+4<=w5.heap.size:=by
  have h3:=(D0.1 zr).1;omega
 clear qS qP qJ j5 ja DU qi ct cd qD qv;go_wp2_with fail
 refine(wpIn_wide (n:=6)).1 ?_;refine Yj (by decide) (gf:=188) (lb:=#[.pointer (some ⟨w5.heap.size,0,none⟩), .pointer (some ⟨w5.heap.size+1,0,none⟩)]) rfl (enters_of func188 (by kernel_rfl) rfl)
  qZ.out (fun _ _ _=>KpC.trans) (KpC.turn (by omega) (by omega) (by omega)) (D6 _ _) (fun _=>rfl)
  (fun A B h=>h.2)
  (fun pre W=>Below w5.heap.size w5 W/\∀p∈pre,¬lacks p)
  (fun c pre W=>c=Code.ret/\(∃p∈pre,lacks p)/\Below w.heap.size w W/\W.heap[w.heap.size+2]?=some (.cells #[.slice none 0 0] 26)/\∃vt vx,W.heap[w.heap.size+3]?=some (.cells #[.iface vt vx] 32)/\Qy 40 W W.heap.size (.iface vt vx))
  ?bears ?wr ?al ?bearsx ⟨zM.out,fun p hp=>by cases hp⟩ (fun _=>⟨QS.refl _ _ _,KeepsOthers.refl _⟩) (KpC.refl _ _ _) ?a1 ?assign ?body ?done ?stop
 case assign=>
  intro l x W K hK;gi_wp2;exact hK
 case bears=>
  rintro pre W l o o' hl zF ho ⟨h1,h2⟩;exact⟨h1.trans ((D6 _ W).grown (grownBy_putObj' W l o') h1.size (fun k e=>by cases e;omega)),h2⟩
 case wr=>
  rintro pre X Y hw ⟨h1,h2⟩;exact⟨XA h1 hw.1 (Nat.le_refl _) (by omega) (Na _),h2⟩
 case al=>
  rintro pre X o ⟨h1,h2⟩;exact⟨h1.alloc h1.size _,h2⟩
 case bearsx=>
  rintro c pre W l o o' hl zF ho ⟨h1,h2,h3,h4,vt,vx,h5,h6⟩;have zA:(W.putObj l o').heap.size=W.heap.size:=by simp[World.putObj]
  refine⟨h1,h2,h3.trans ((D6 _ W).grown (grownBy_putObj' W l o') h3.size (fun k e=>by cases e;omega)),(World.putObj_heap_other (by omega)).trans h4,vt,vx,(World.putObj_heap_other (by omega)).trans h5,?_⟩;rw[zA];exact h6.kept fun g cs hg=>(World.putObj_heap_other (fun e=>by subst e;rw[hg] at zF;cases zF;cases ho)).trans hg
 case body=>
  rintro l pre ⟨x1,x2⟩ W ⟨zc,q8⟩ qG;have jc:=(zc.block _ (by omega)).trans jk;have jh:=(zc.block _ (by omega)).trans jx;have zx:=DY ((zc.block _ (by omega)).trans zT);have qh:=DY ((zc.block _ (by omega)).trans zr);have ct:=Qa jc 0 rfl;have cd:=Qa jh 0 rfl;have zC:=DY zc;have j4:=DY (Qb qz zc);have zs:=DY q8;clear jc jh zc q8 qG;cases x1 with
  |none=>
   cases x2 with
   |none=>
    dsimp only[Vx];gi_wp2_with (refine⟨trivial,?_⟩;refine(CallsIn.inRound l (callsIn_wide.2 (KL.out details 18 (by decide) W))).mono ?_;rintro e w8 ⟨v,rfl,hv,zg⟩;obtain⟨vt,vx,rfl⟩:=hv.form;have zq:=Lib.hid hv;have zb:=DY zg;have zh:=Qe zx.out zg;have zf:=Qe qh.out zg;have q2:=Qa zh 0 rfl;have q3:=Qa zf 0 rfl;have f2:=Qf zh 0;have f3:=Qf zf 0;have zE:=DY zh;have qe:=DY zf;clear hv zg zh zf)
    have g2:=grownBy_setCell' w8 (w.heap.size+2) (.slice none 0 0);have r3:(w8.setCell ⟨w.heap.size+2,0,none⟩ (.slice none 0 0)).heap[w.heap.size+3]?=some (.cells #[.nilIface] 32):=(heap_setCell_other _ _ _ _ (by simp)).trans qe;have g3:=grownBy_setCell' (w8.setCell ⟨w.heap.size+2,0,none⟩ (.slice none 0 0)) (w.heap.size+3) (.iface vt vx);have r2:(w8.setCell ⟨w.heap.size+2,0,none⟩ (.slice none 0 0)).heap[w.heap.size+2]?=some (.cells #[.slice none 0 0] 26):=Boxed.set _ zE;exact⟨(Y2 zb.out).trans ((KeepsOthers.setCell _ _ _).trans (KeepsOthers.setCell _ _ _)),rfl,⟨_,List.mem_append_right _ (Lf.2 rfl), .inl rfl⟩,((Qb j4.out zb.out).setCell (p:=⟨w.heap.size+2,0,none⟩) (by simp) _).setCell (p:=⟨w.heap.size+3,0,none⟩) (by simp) _,(heap_setCell_other _ _ _ _ (by simp)).trans r2,vt,vx,Boxed.set _ r3,((((zq.out.up (by decide)).grown zE.out (by decide) g2).more g2.size).grown r3 (by decide) g3).more g3.size⟩
   |some j=>
    dsimp only[Vx];gi_wp2_with (refine⟨trivial,?_⟩;refine(CallsIn.inRound l (callsIn_wide.2 (KL.out details 18 (by decide) W))).mono ?_;rintro e w8 ⟨v,rfl,hv,zg⟩;obtain⟨vt,vx,rfl⟩:=hv.form;have zq:=Lib.hid hv;have zb:=DY zg;have zh:=Qe zx.out zg;have zf:=Qe qh.out zg;have q2:=Qa zh 0 rfl;have q3:=Qa zf 0 rfl;have f2:=Qf zh 0;have f3:=Qf zf 0;have zE:=DY zh;have qe:=DY zf;clear hv zg zh zf)
    have g2:=grownBy_setCell' w8 (w.heap.size+2) (.slice none 0 0);have r3:(w8.setCell ⟨w.heap.size+2,0,none⟩ (.slice none 0 0)).heap[w.heap.size+3]?=some (.cells #[.nilIface] 32):=(heap_setCell_other _ _ _ _ (by simp)).trans qe;have g3:=grownBy_setCell' (w8.setCell ⟨w.heap.size+2,0,none⟩ (.slice none 0 0)) (w.heap.size+3) (.iface vt vx);have r2:(w8.setCell ⟨w.heap.size+2,0,none⟩ (.slice none 0 0)).heap[w.heap.size+2]?=some (.cells #[.slice none 0 0] 26):=Boxed.set _ zE;exact⟨(Y2 zb.out).trans ((KeepsOthers.setCell _ _ _).trans (KeepsOthers.setCell _ _ _)),rfl,⟨_,List.mem_append_right _ (Lf.2 rfl), .inl rfl⟩,((Qb j4.out zb.out).setCell (p:=⟨w.heap.size+2,0,none⟩) (by simp) _).setCell (p:=⟨w.heap.size+3,0,none⟩) (by simp) _,(heap_setCell_other _ _ _ _ (by simp)).trans r2,vt,vx,Boxed.set _ r3,((((zq.out.up (by decide)).grown zE.out (by decide) g2).more g2.size).grown r3 (by decide) g3).more g3.size⟩
  |some i=>
   cases x2 with
   |none=>
    dsimp only[Vx];gi_wp2_with (refine⟨trivial,?_⟩;refine(CallsIn.inRound l (callsIn_wide.2 (KL.out top 18 (by decide) W))).mono ?_;rintro e w8 ⟨v,rfl,hv,zg⟩;obtain⟨vt,vx,rfl⟩:=hv.form;have zq:=DY hv;have zb:=DY zg;have zh:=Qe zx.out zg;have zf:=Qe qh.out zg;have q2:=Qa zh 0 rfl;have q3:=Qa zf 0 rfl;have f2:=Qf zh 0;have f3:=Qf zf 0;have zE:=DY zh;have qe:=DY zf;clear hv zg zh zf)
    have g2:=grownBy_setCell' w8 (w.heap.size+2) (.slice none 0 0);have r3:(w8.setCell ⟨w.heap.size+2,0,none⟩ (.slice none 0 0)).heap[w.heap.size+3]?=some (.cells #[.nilIface] 32):=(heap_setCell_other _ _ _ _ (by simp)).trans qe;have g3:=grownBy_setCell' (w8.setCell ⟨w.heap.size+2,0,none⟩ (.slice none 0 0)) (w.heap.size+3) (.iface vt vx);have r2:(w8.setCell ⟨w.heap.size+2,0,none⟩ (.slice none 0 0)).heap[w.heap.size+2]?=some (.cells #[.slice none 0 0] 26):=Boxed.set _ zE;exact⟨(Y2 zb.out).trans ((KeepsOthers.setCell _ _ _).trans (KeepsOthers.setCell _ _ _)),rfl,⟨_,List.mem_append_right _ (Lf.2 rfl), .inr rfl⟩,((Qb j4.out zb.out).setCell (p:=⟨w.heap.size+2,0,none⟩) (by simp) _).setCell (p:=⟨w.heap.size+3,0,none⟩) (by simp) _,(heap_setCell_other _ _ _ _ (by simp)).trans r2,vt,vx,Boxed.set _ r3,((((zq.out.up (by decide)).grown zE.out (by decide) g2).more g2.size).grown r3 (by decide) g3).more g3.size⟩
   |some j=>
    dsimp only[Vx];gi_wp2;refine⟨KeepsOthers.refl _,KpC.refl _ _ _ _,zC.out,?_⟩;intro p hp;rcases NY.1 hp with hp|hp
    ·exact zs p hp
    ·obtain rfl:p=(some i,some j):=by simpa using hp
     rintro(h|h)<;>cases h
 case stop=>
  rintro D c pre W hD ⟨k,hk,rfl⟩ ⟨rfl,yt,h3,h4,vt,vx,h5,h6⟩ hK;have zO:=DY (show q=none by rw[qR.out,if_neg (fun h=>yA.out k yt h.2)]);have zA:(W.putObj D (.deferred none)).heap.size=W.heap.size:=by simp[World.putObj]
  have q2:=Qa ((World.putObj_heap_other (o:= .deferred none) (w:=W) (show w.heap.size+2≠D by omega)).trans h4) 0 rfl;have q3:=Qa ((World.putObj_heap_other (o:= .deferred none) (w:=W) (show w.heap.size+3≠D by omega)).trans h5) 0 rfl;have h6':Qy 40 (W.putObj D (.deferred none)) (W.putObj D (.deferred none)).heap.size (.iface vt vx):=by
   rw[zA];exact h6.kept fun g cs hg=>(World.putObj_heap_other (fun e=>by subst e;rw[hg] at hK;cases hK)).trans hg
  refine wpIn_wide.2 ?_;go_wp2;refine⟨by simp, .inl ⟨_,_,rfl,run_takeDeferred hK,?_⟩⟩
  refine⟨.tuple #[.slice none 0 0, .iface vt vx],(by rw[Z7 rfl];go_simp),?_⟩;exact⟨h3.trans ((D6 _ W).grown (grownBy_putObj' W D _) h3.size (fun k e=>by cases e;omega)), .inr ⟨zO.out,_,rfl,h6'.up (by decide)⟩⟩
 case done=>
  rintro D ys W hD rfl ⟨zc,q7⟩ hK;have qf:=ye.out q7;have jQ:=DY (fun(pre:List (Option Nat×Option Nat)) x=>next_both qf (pre:=pre) (x:=x));have jD:=DY (all_both qf);have yw:=DY (show q=ZU bs data fuel 0 (sD.ents.zip sT.ents) by rw[qR.out,if_pos ⟨jo.out,qf⟩]);have HKL:=DY (show sD.ents.length=sT.ents.length by simpa[Qp] using congrArg List.length qf);have M0:w5.heap.size<=W.heap.size:=zc.size;obtain⟨w8,zJ⟩:∃w8,w8=((W.alloc (.cells #[.pointer (some ⟨m,0,none⟩), .int .i64 data, .int .i64 fuel, .int .i64 0] 245)).alloc (.cells #[.pointer (some ⟨W.heap.size,0,none⟩)] 243)).alloc (.cells #[.slice none 0 0] 26):=⟨_,rfl⟩;have qV:=DY (show Below W.heap.size W w8 by rw[zJ];exact Qb (QG W _ _) (Qd _ _));have yE:=DY (show VR w8 W.heap.size m data fuel 0 by rw[zJ];exact Qj (Qj (heap_alloc_new W _) _) _);have yb:=DY (show w8.heap[W.heap.size+1]?=some (.cells #[.pointer (some ⟨W.heap.size,0,none⟩)] 243) by rw[zJ];exact Qj (ZB (by simp) _) _);have yi:=DY (show w8.heap[W.heap.size+2]?=some (.cells #[.slice none 0 0] 26) by rw[zJ];exact ZB (by simp) _);have qm:w8.heap.size=W.heap.size+3:=by rw[zJ];simp
  have qD:=Qa (Qe ((zc.block _ (D0.1 qj).1).trans qj) qV) 0 rfl;have qv:=Qa (Qe ((zc.block _ (D0.1 qw).1).trans qw) qV) 0 rfl;have zN:=DY ((yq.out.below zc).more M0);have zG:=DY ((jN.out.below zc).more M0);have jr:=DY ((zc.block _ (by omega)).trans zT);have qT:=DY ((zc.block _ (by omega)).trans zr);have zC:=DY (Qb qz zc);have zK:=DY hK;clear q7 qf zc hK;go_upto_region 18 with fail
  rw[<-zJ];clear zJ;go_wp2_with fail
  refine(callsIn_wide.1 (pairs_in 6 E0 X0 sD.ents.length sT.ents.length E1 X1 w8)).mono ?_;rintro e w9 ⟨rfl,qb⟩;have zt:=DY (show Below w8.heap.size w8 w9 by rw[qb];exact QG w8 _ _);have jH:=DY (show w9.heap[w8.heap.size]?=some (.cells #[.slice E0 sD.ents.length E1] 137) by rw[qb];exact Qj (heap_alloc_new w8 _) _);have y3:=DY (show w9.heap[w8.heap.size+1]?=some (.cells #[.slice X0 sT.ents.length X1] 137) by rw[qb];exact ZB (by simp) _);have qg:w9.heap.size=w8.heap.size+2:=by rw[qb];simp
  have j3:=DY (Qb qV zt);have zY:=DY (Kr 5 (by omega) w8.heap.size (w8.heap.size+1) W.heap.size ab ao tb z7 sD.ents sT.ents jF jf (by omega) w9 (by omega) (by omega)
   ⟨Lb _,E0,E1,jH.out,qx.out.1,qx.out.2.1⟩ ⟨Lb _,X0,X1,y3.out,qx.out.2.2.1,qx.out.2.2.2⟩ (by omega) (by omega) (zN.out.below j3).keys (zG.out.below j3).keys)
  have z5:=DY qm;have z6:=DY qg;clear qb qD qv qm qg;go_wp2_with fail
  refine(wpIn_wide (n:=6)).1 ?_;refine Yj (by decide) (gf:=188) (lb:=#[.pointer (some ⟨w8.heap.size,0,none⟩), .pointer (some ⟨w8.heap.size+1,0,none⟩)]) rfl (enters_of func188 (by kernel_rfl) rfl)
   zY.out (fun _ _ _=>KpC.trans) (KpC.turn (by have:=z5.out;have:=z6.out;omega) (by have:=z5.out;have:=z6.out;omega) (by have:=z5.out;have:=z6.out;omega)) (D6 _ _) (fun _=>rfl)
   (fun A B h=>h.2)
   (fun pre V=>DvI q bs data fuel m (sD.ents.zip sT.ents) W w9.heap.size pre.length V)
   (fun c pre V=>c=Code.ret/\q=none/\Below w.heap.size w V/\V.heap[w.heap.size+2]?=some (.cells #[.slice none 0 0] 26)/\V.heap[D]?=some (.deferred (some []))/\∃vt vx,V.heap[w.heap.size+3]?=some (.cells #[.iface vt vx] 32)/\Qy 42 V V.heap.size (.iface vt vx))
   ?bears2 ?wr2 ?DT ?bearsx2 ?start2 (fun _=>⟨QS.refl _ _ _,KeepsOthers.refl _⟩) (KpC.refl _ _ _) ?a2 ?assign2 ?body2 ?done2 ?stop2
  case assign2=>
   intro l x V K hK;gi_wp2;exact hK
  case start2=>
   exact⟨[],0, .slice none 0 0,rfl,by omega,by rw[yw.out,show List.drop ([]:List (Option Nat×Option Nat)).length (sD.ents.zip sT.ents)=sD.ents.zip sT.ents from rfl];cases ZU bs data fuel 0 (sD.ents.zip sT.ents)<;>rfl,j3.out,Qe yb zt,Qe yi zt,Qt.nil _ _,Qe yE zt,Na _⟩
  case bears2=>
   rintro pre V l o o' hl zF ho h;exact h.turned zF ho (by have:=z5.out;have:=z6.out;omega)
  case wr2=>
   rintro pre X Y hw h;exact h.turns hw.1 (by have:=z5.out;have:=z6.out;omega) (by have:=z5.out;have:=z6.out;omega) (by have:=z5.out;have:=z6.out;omega) (by have:=z5.out;have:=z6.out;omega)
  case DT=>
   rintro pre X o h;exact h.keep (Qd X o)
  case bearsx2=>
   rintro c pre V l o o' hl zF ho ⟨h1,h2,h3,h4,zV,vt,vx,h5,h6⟩;have zA:(V.putObj l o').heap.size=V.heap.size:=by simp[World.putObj]
   refine⟨h1,h2,h3.trans ((D6 _ V).grown (grownBy_putObj' V l o') h3.size (fun k e=>by cases e;have:=z5.out;have:=z6.out;omega)),(World.putObj_heap_other (by have:=z5.out;have:=z6.out;omega)).trans h4,(World.putObj_heap_other (by have:=z5.out;have:=z6.out;have:=(D0.1 zK).1;omega)).trans zV,vt,vx,(World.putObj_heap_other (by have:=z5.out;have:=z6.out;omega)).trans h5,?_⟩;rw[zA];exact h6.kept fun g cs hg=>(World.putObj_heap_other (fun e=>by subst e;rw[hg] at zF;cases zF;cases ho)).trans hg
  case body2=>
   rintro l pre x V ⟨ls,ze,u,h1,h2,h3,h4,h5,h6,h7,h8,h9⟩ qG;obtain⟨rfl,zX,qs⟩:=jQ.out _ _ qG;clear qG;obtain⟨k,hk⟩:=DR (pre.length);rw[<-hk] at h1 h3 zX qs;have jq:=DY (show(pre++[(some k,some k)]).length=k+1 by rw[D7,hk];rfl);rw[<-hk];obtain⟨p0,p1,p2,qr⟩:∃p0 p1 p2,sD.ents[k]=⟨p0,p1,p2⟩:=⟨_,_,_,rfl⟩;obtain⟨r0,r1,r2,qu⟩:∃r0 r1 r2,sT.ents[k]=⟨r0,r1,r2⟩:=⟨_,_,_,rfl⟩;obtain⟨x0,x1,x2⟩:=(zN.out.below h4).2 k _ (D1 zX);obtain⟨y0,y1,y2⟩:=(zG.out.below h4).2 k _ (D1 qs);rw[qr] at x0 x1 x2;rw[qu] at y0 y1 y2;dsimp only at x0 x1 x2 y0 y1 y2;have jn:p1.length<=reachBytes:=by
    have:=jJ.out _ (List.getElem_mem zX);rw[qr] at this;have this:p1.length<=24:=this;simp only[reachBytes];omega
   have jl:r1.length<=reachBytes:=by
    have:=yd.out _ (List.getElem_mem qs);rw[qu] at this;have this:r1.length<=24:=this;simp only[reachBytes];omega
   have zw:=DY (show q=(Js bs data fuel ze ⟨p0,p1,p2⟩ ⟨r0,r1,r2⟩).bind fun x=>(ZU bs data fuel ((ze+x.maps.length:Nat)) ((sD.ents.zip sT.ents).drop (k+1))).map fun r=>(ls++[x])++r by
    rw[h3,devs_drop (by rw[List.length_zip];omega),List.getElem_zip,qr,qu])
   have jO:=DY (fun(V':World) (hb:Below w.heap.size w V') (hr:VR V' W.heap.size m data fuel ze)=>yv.out V' hb W.heap.size ze p0 p1 p2 r0 r1 r2 hr (by omega) (by omega) jn jl);have zs:=DY (DZ h1 h2);have jI:=DY zX;have zP:=DY h4;have jg:=DY (Qb zC h4);have jt:=DY h5;have qI:=DY h6;have j9:=DY h7;have zq:=DY h8;have ql:=DY h9;have zl:=DY (DZ (zN.out.below h4).1 (zG.out.below h4).1);have c5:=Qa h5 0 rfl;clear hk zX qs qr qu jn jl h1 h2 h3 h4 h5 h6 h7 h8 h9;have qq:=DY (show Below W.heap.size W V.drew/\V.drew.cell? ⟨W.heap.size+1,0,none⟩=some (.pointer (some ⟨W.heap.size,0,none⟩))/\V.drew.cell? ⟨ab,ao+k*3,none⟩=some (.int .i64 p0)/\V.drew.cell? ⟨ab,ao+k*3+1,none⟩=some (.string ⟨p1.toArray⟩)/\V.drew.cell? ⟨ab,ao+k*3+2,none⟩=some (.int .i64 p2)/\V.drew.cell? ⟨tb,z7+k*3,none⟩=some (.int .i64 r0)/\V.drew.cell? ⟨tb,z7+k*3+1,none⟩=some (.string ⟨r1.toArray⟩)/\V.drew.cell? ⟨tb,z7+k*3+2,none⟩=some (.int .i64 r2) from⟨zP.out.drew,c5,x0,x1,x2,y0,y1,y2⟩);have zp:=DY (fun(U U':World) (r:Nat) (hg:U.grownBy U' (some r)) (hr:W.heap.size<=r) (hn:r≠W.heap.size+1) (hS:Below W.heap.size W U/\U.cell? ⟨W.heap.size+1,0,none⟩=some (.pointer (some ⟨W.heap.size,0,none⟩))/\U.cell? ⟨ab,ao+k*3,none⟩=some (.int .i64 p0)/\U.cell? ⟨ab,ao+k*3+1,none⟩=some (.string ⟨p1.toArray⟩)/\U.cell? ⟨ab,ao+k*3+2,none⟩=some (.int .i64 p2)/\U.cell? ⟨tb,z7+k*3,none⟩=some (.int .i64 r0)/\U.cell? ⟨tb,z7+k*3+1,none⟩=some (.string ⟨r1.toArray⟩)/\U.cell? ⟨tb,z7+k*3+2,none⟩=some (.int .i64 r2))=>(show Below W.heap.size W U'/\U'.cell? ⟨W.heap.size+1,0,none⟩=some (.pointer (some ⟨W.heap.size,0,none⟩))/\U'.cell? ⟨ab,ao+k*3,none⟩=some (.int .i64 p0)/\U'.cell? ⟨ab,ao+k*3+1,none⟩=some (.string ⟨p1.toArray⟩)/\U'.cell? ⟨ab,ao+k*3+2,none⟩=some (.int .i64 p2)/\U'.cell? ⟨tb,z7+k*3,none⟩=some (.int .i64 r0)/\U'.cell? ⟨tb,z7+k*3+1,none⟩=some (.string ⟨r1.toArray⟩)/\U'.cell? ⟨tb,z7+k*3+2,none⟩=some (.int .i64 r2) from by
    obtain⟨a1,a2,a3,a4,a5,a6,a7,a8⟩:=hS;have hb:=(D6 W.heap.size U).grown hg a1.size (fun k hk=>by have:=Nd hk;omega);have j7:∀{p:Addr},(U.cell? p).isSome=true->p.block<U.heap.size:=fun{p} h=>World.block_lt_of_cell? U p (Option.isSome_iff_exists.1 h).choose_spec
    refine⟨a1.trans hb,?_,(hb.cell (p:=⟨ab,ao+k*3,none⟩) zl.out.1).trans a3,(hb.cell (p:=⟨ab,ao+k*3+1,none⟩) zl.out.1).trans a4,(hb.cell (p:=⟨ab,ao+k*3+2,none⟩) zl.out.1).trans a5,(hb.cell (p:=⟨tb,z7+k*3,none⟩) zl.out.2).trans a6,(hb.cell (p:=⟨tb,z7+k*3+1,none⟩) zl.out.2).trans a7,(hb.cell (p:=⟨tb,z7+k*3+2,none⟩) zl.out.2).trans a8⟩;have hk:U'.heap[W.heap.size+1]?=U.heap[W.heap.size+1]?:=hg.block (W.heap.size+1) (j7 (p:=⟨W.heap.size+1,0,none⟩) (by rw[a2];rfl)) (fun e=>hn (Nd e).symm);rw[<-a2];simp only[World.cell?,hk]))
   have y6:=DY (show(V.drew.alloc (.cells #[.int .i64 0, .int .i64 0, .int .i64 0, .int .i64 0, .slice none 0 0] 49)).heap[V.heap.size]?=some (.cells #[.int .i64 0, .int .i64 0, .int .i64 0, .int .i64 0, .slice none 0 0] 49) from heap_alloc_new V.drew _);have jS:=DY (show VR (V.alloc (.cells #[.int .i64 0, .int .i64 0, .int .i64 0, .int .i64 0, .slice none 0 0] 49)).drew W.heap.size m data fuel ze from(Qe zq (Qd V (.cells #[.int .i64 0, .int .i64 0, .int .i64 0, .int .i64 0, .slice none 0 0] 49)):(V.alloc (.cells #[.int .i64 0, .int .i64 0, .int .i64 0, .int .i64 0, .slice none 0 0] 49)).heap[W.heap.size]?=_))
   have zi:=DY (show W.heap.size+3<=V.heap.size by have:=(D0.1 qI).1;omega);clear c5 x0 x1 x2 y0 y1 y2;dsimp only[Vx];gi_wp2;refine wpIn_cut9 (fun(X:Nat) (i0 i1 i2 i3:Int) (A9:Option Addr) (n9 c9:Nat) (v9:Value)=>(⟨#[.pointer (some ⟨m,0,none⟩), .int .i64 top, .int .i64 details, .int .i64 data, .int .i64 fuel,undef, .pointer (some ⟨w.heap.size,0,none⟩), .pointer (some ⟨w.heap.size+1,0,none⟩),undef,undef, .pointer (some ⟨w.heap.size+1+1,0,none⟩), .pointer (some ⟨w.heap.size+1+1+1,0,none⟩), .pointer (some ⟨w2.heap.size,0,none⟩), .nilIface, .pointer (some ⟨w4.heap.size,0,none⟩),undef,undef, .pointer (some ⟨W.heap.size+1,0,none⟩), .pointer (some ⟨W.heap.size+1+1,0,none⟩), .pointer (some ⟨ab,ao+k*3,none⟩), .pointer (some ⟨tb,z7+k*3,none⟩), .pointer (some ⟨X,0,none⟩),v9, .tuple #[.agg #[.slice E0 sD.ents.length E1, .slice B0 bl B1, .int .i64 dd, .int .i64 lk, .slice F0 fl F1], .nilIface], .pointer (some ⟨m,0,none⟩), .int .i64 details, .int .i64 fuel, .tuple #[.agg #[.slice E0 sD.ents.length E1, .slice B0 bl B1, .int .i64 dd, .int .i64 lk, .slice F0 fl F1], .nilIface], .agg #[.slice E0 sD.ents.length E1, .slice B0 bl B1, .int .i64 dd, .int .i64 lk, .slice F0 fl F1], .nilIface, .nilIface, .bool false,undef, .tuple #[.agg #[.slice X0 sT.ents.length X1, .slice C0 cl C1, .int .i64 ee, .int .i64 lt, .slice G0 gl G1], .nilIface], .pointer (some ⟨m,0,none⟩), .int .i64 top, .int .i64 fuel, .tuple #[.agg #[.slice X0 sT.ents.length X1, .slice C0 cl C1, .int .i64 ee, .int .i64 lt, .slice G0 gl G1], .nilIface], .agg #[.slice X0 sT.ents.length X1, .slice C0 cl C1, .int .i64 ee, .int .i64 lt, .slice G0 gl G1], .nilIface, .nilIface, .bool false,undef, .pointer (some ⟨w2.heap.size,0,none⟩), .slice E0 sD.ents.length E1, .int .i64 ↑sD.ents.length, .bool false,undef,undef, .pointer (some ⟨w2.heap.size,0,none⟩), .slice E0 sD.ents.length E1, .pointer (some ⟨w4.heap.size,0,none⟩), .slice X0 sT.ents.length X1, .func (Fn.func 188) #[] #[.pointer (some ⟨w5.heap.size,0,none⟩), .pointer (some ⟨w5.heap.size+1,0,none⟩)],undef,undef,undef,undef,undef,undef,undef,undef,undef,undef,undef,undef, .pointer (some ⟨m,0,none⟩), .int .i64 data, .int .i64 fuel, .agg #[.pointer (some ⟨m,0,none⟩), .int .i64 data, .int .i64 fuel, .int .i64 0], .pointer (some ⟨W.heap.size,0,none⟩), .pointer (some ⟨w2.heap.size,0,none⟩), .slice E0 sD.ents.length E1, .pointer (some ⟨w4.heap.size,0,none⟩), .slice X0 sT.ents.length X1, .func (Fn.func 188) #[] #[.pointer (some ⟨w8.heap.size,0,none⟩), .pointer (some ⟨w8.heap.size+1,0,none⟩)], .pointer (some ⟨ab,ao+k*3,none⟩), .pointer (some ⟨tb,z7+k*3,none⟩), .tuple #[.agg #[.int .i64 i0, .int .i64 i1, .int .i64 i2, .int .i64 i3, .slice A9 n9 c9],v9], .pointer (some ⟨W.heap.size,0,none⟩), .pointer (some ⟨ab,ao+k*3,none⟩), .pointer (some ⟨ab,ao+k*3,none⟩), .agg #[.int .i64 p0, .string ⟨p1.toArray⟩, .int .i64 p2], .pointer (some ⟨tb,z7+k*3,none⟩), .pointer (some ⟨tb,z7+k*3,none⟩), .agg #[.int .i64 r0, .string ⟨r1.toArray⟩, .int .i64 r2], .tuple #[.agg #[.int .i64 i0, .int .i64 i1, .int .i64 i2, .int .i64 i3, .slice A9 n9 c9],v9], .agg #[.int .i64 i0, .int .i64 i1, .int .i64 i2, .int .i64 i3, .slice A9 n9 c9],v9,undef,undef,undef,undef,undef,undef,undef,undef],[]⟩:Act)) (fun(X:Nat) (i0 i1 i2 i3:Int) (A9:Option Addr) (n9 c9:Nat) (v9:Value) U=>V.grownBy U (some W.heap.size)/\U.heap[X]?=some (.cells #[.int .i64 i0, .int .i64 i1, .int .i64 i2, .int .i64 i3, .slice A9 n9 c9] 49)/\V.heap.size<=X/\DvU V.heap.size W.heap.size m data fuel ze (Js bs data fuel ze ⟨p0,p1,p2⟩ ⟨r0,r1,r2⟩) U i0 i1 i2 i3 A9 n9 c9 v9) ?first ?rest
   case first=>
    refine JJ (S:=(fun U=>Below W.heap.size W U/\U.cell? ⟨W.heap.size+1,0,none⟩=some (.pointer (some ⟨W.heap.size,0,none⟩))/\U.cell? ⟨ab,ao+k*3,none⟩=some (.int .i64 p0)/\U.cell? ⟨ab,ao+k*3+1,none⟩=some (.string ⟨p1.toArray⟩)/\U.cell? ⟨ab,ao+k*3+2,none⟩=some (.int .i64 p2)/\U.cell? ⟨tb,z7+k*3,none⟩=some (.int .i64 r0)/\U.cell? ⟨tb,z7+k*3+1,none⟩=some (.string ⟨r1.toArray⟩)/\U.cell? ⟨tb,z7+k*3+2,none⟩=some (.int .i64 r2))) (by kernel_rfl) (by kernel_rfl) ?_ (fun hHeld=>?_)
    (focus((try dsimp only);(first|with_reducible exact qq.out|with_reducible exact zp.out _ _ _ zn.out (Na _) (by omega) hHeld|with_reducible exact zp.out _ _ _ (Lz _ _ (some W.heap.size)) (Na _) (by omega) jy.out|with_reducible exact zp.out _ _ _ (Lz _ _ (some W.heap.size)) (Na _) (by omega) hHeld|with_reducible exact zp.out _ _ V.heap.size (Zz w9 V.heap.size _ _ _ _ _) (by have:=zi.out;omega) (by have:=zi.out;omega) hHeld|exact qq.out|exact zp.out _ _ V.heap.size (Zz w9 V.heap.size _ _ _ _ _) (by have:=zi.out;omega) (by have:=zi.out;omega) hHeld)))
    refine QD (.f 0 (.f 1 (.f 2 (.f 3 (.f 4 (.f 5 (.f 6 (.t 7 (.f 8 (.f 9 (.f 10 (.o 11 (.o 12 (.f 13 .e)))))) 11 (.o 7 (.f 8 (.f 9 (.f 10 (.o 12 (.f 13 .e)))))))))))))) ?_
    repeat' ((first|(refine QL (v:=?_) (hv:=?_) (h:=?_);rotate_left;(focus(first|(refine .inr ⟨by rfl,?_⟩;rfl)|(refine .inl ⟨by rfl,?_⟩;intro w hSw;(try dsimp only at hSw);(try simp only[D8,D4,D5]);go_simp;try(with_reducible rfl)))))|(refine Qr (h:=?_))|(((first|refine Qx (h:=fun K hK=>?_)|refine Zt (h:=fun K hK=>?_) (h':=fun K hK=>?_))<;>((try simp only[D8,D4,D5]);go_simp))<;>((first|(go_at_call 121;refine(jO.out _ (Qb zC.out hHeld.1) (by first|exact zq.out|exact jS.out)).mono ?_;rintro e w9 jz;obtain⟨i0,i1,i2,i3,A9,n9,c9,v9,rfl,zv,qE⟩:=dvU_any jz;have j1:=DY zv;have zn:=DY qE;have jy:=DY (zp.out _ _ _ qE (Na _) (by omega) hHeld);clear zv jz;(first|(have zm:=(qE.block V.heap.size (by show V.heap.size<(V.drew.alloc _).heap.size;simp) (fun e=>by have:=Nd e;have:=zi.out;omega)).trans y6.out;have q0:=Qa zm 0 rfl;have q1:=Qa zm 1 rfl;have q2:=Qa zm 2 rfl;have q3:=Qa zm 3 rfl;have q4:=Qa zm 4 rfl;have z0:=Qf zm 0;have z1:=Qf zm 1;have z2:=Qf zm 2;have z3:=Qf zm 3;have z4:=Qf zm 4;have qW:=DY zm;clear zm)|skip);clear qE)|skip);refine hK.out _ _ ?_ (fun hHeld=>?_);(focus((try dsimp only);(first|with_reducible exact qq.out|with_reducible exact zp.out _ _ _ zn.out (Na _) (by omega) hHeld|with_reducible exact zp.out _ _ _ (Lz _ _ (some W.heap.size)) (Na _) (by omega) jy.out|with_reducible exact zp.out _ _ _ (Lz _ _ (some W.heap.size)) (Na _) (by omega) hHeld|with_reducible exact zp.out _ _ V.heap.size (Zz w9 V.heap.size _ _ _ _ _) (by have:=zi.out;omega) (by have:=zi.out;omega) hHeld|exact qq.out|exact zp.out _ _ V.heap.size (Zz w9 V.heap.size _ _ _ _ _) (by have:=zi.out;omega) (by have:=zi.out;omega) hHeld)));clear hK K)))<;>(try simp only[Act.put,Nc,Nf,Ng]))
    all_goals (refine Qu ?_;refine wpAnyH_done (by kernel_rfl) ?_ _)
    ·obtain⟨X,hX⟩:=DR (w9.heap.size);rw[<-hX];refine fun K' hK'=>hK' X i0 i1 i2 i3 A9 n9 c9 v9 ?_
     have hg:V.grownBy w9 (some W.heap.size):=⟨zn.out.os,zn.out.tape,zn.out.output,zn.out.size,zn.out.block⟩;exact⟨ZY hg (Lz w9 _ (some w9.heap.size)) hg.size,by rw[hX];exact heap_alloc_new w9 _,by rw[hX];exact hg.size,j1.out.keep (Qd w9 _)⟩
    ·obtain⟨X,hX⟩:=DR (V.heap.size);rw[<-hX];refine fun K' hK'=>hK' X i0 i1 i2 i3 A9 n9 c9 v9 ?_
     have hg:V.grownBy w9 (some W.heap.size):=QC (Lz V _ (some W.heap.size)) ⟨zn.out.os,zn.out.tape,zn.out.output,zn.out.size,zn.out.block⟩;rw[<-hX] at qW;refine⟨ZY hg (Zz w9 X _ _ _ _ _) (by omega),JV qW _ _ _ _ _,by omega,?_⟩
     have hd:=j1.out.grown qW.out (by decide) (by decide) (by decide) (Zz w9 X (.int .i64 i0) (.int .i64 i1) (.int .i64 i2) (.int .i64 i3) (.slice A9 n9 c9));rcases hd with⟨d,a1,a2,a3,a4,a5,a6,a7,a8,a9⟩|ha
     ·exact .inl ⟨d,a1,a2,a3,a4,a5,a6,a7,QO a8 (by rw[hX];exact(Qd V (.cells #[.int .i64 0, .int .i64 0, .int .i64 0, .int .i64 0, .slice none 0 0] 49)).size),a9⟩
     ·exact .inr ha
   case rest=>
    rintro X i0 i1 i2 i3 A9 n9 c9 v9 U ⟨zo,qF,hXV,zv⟩;have zI:=Lib.hid zo;have HXU:=DY qF;have j1:=Lib.hid zv;have r7:=(zo.block _ (by have:=zP.out.size;omega) (fun e=>by have:=Nd e;omega)).trans ((zP.out.block _ (by omega)).trans jr);have e7:=(zo.block _ (by have:=zP.out.size;omega) (fun e=>by have:=Nd e;omega)).trans ((zP.out.block _ (by omega)).trans qT);rcases zv.form with rfl|⟨vt,vx,rfl⟩
    ·obtain⟨js,jX,y4,y5,yc⟩:=info_parts Tryz.infoDevL;obtain⟨d,zd,-,d0,d1,d2,d3,d4,qB,qo⟩|⟨-,qy⟩:=zv;rotate_left
     ·obtain⟨t,x,hx⟩:=qy.form;cases hx
     have qY:Qt U w9.heap.size u ls:=j9.out.kept zo (fun e he u' s n xs ho=> .inr (Qi zq.out (by rcases he with rfl|rfl<;>decide) ho).symm);obtain⟨u0,uc,hu⟩:=qY.form;subst hu;obtain⟨xs,zS,zz⟩:=(qY.keep (Qd U (.cells #[.int .i64 i0, .int .i64 i1, .int .i64 i2, .int .i64 i3, .slice A9 n9 c9] 49))).row;have qp:U.heap[W.heap.size+2]?=some (.cells #[.slice u0 ls.length uc] 26):=(zo.block _ (by have:=zi.out;omega) (fun e=>by have:=Nd e;omega)).trans qI;have jw:U.heap[W.heap.size+1]?=some (.cells #[.pointer (some ⟨W.heap.size,0,none⟩)] 243):=(zo.block _ (by have:=zi.out;omega) (fun e=>by have:=Nd e;omega)).trans jt;have yr:=Qa qp 0 rfl;have f18:=Qf qp 0;obtain⟨x0,x1,x2,x3,x4⟩:=DX qF;have HU5:=DY jw;have yD:=DY qp;have j8:=DY (DZ zd (DZ d0 (DZ d1 (DZ d2 (DZ d3 (DZ d4 (DZ qB qo)))))));have yz:=DY zz;have jC:=DY zS;have hln:ls.length<=1000000000:=by have:=jI.out;have:=jo.out;have:=zs.out.1;omega
     have yj:w9.heap.size<=(U.alloc (.cells #[.int .i64 i0, .int .i64 i1, .int .i64 i2, .int .i64 i3, .slice A9 n9 c9] 49)).heap.size:=D3 ql (D3 zo.size (Qd U _).size);clear zd d0 d1 d2 d3 d4 qB qo qY zz jw qp zo qF r7 e7;generalize hll:ls.length=nl at*;have yn:=DY hll;clear hll;have jK:=DY (show∀(j:Nat) u,[Value.int .i64 i0, .int .i64 i1, .int .i64 i2, .int .i64 i3, .slice A9 n9 c9][j]?=some u->(U.alloc (.cells #[.int .i64 i0, .int .i64 i1, .int .i64 i2, .int .i64 i3, .slice A9 n9 c9] 49)).cell? ((⟨U.heap.size,0,none⟩:Addr).add j)=some u from fun j u hj=>by
      rw[Zo,ND];exact Qa (heap_alloc_new U _) j (by simpa using hj))
     have zx:=DY (show∀(w7:World),(U.alloc (.cells #[.int .i64 i0, .int .i64 i1, .int .i64 i2, .int .i64 i3, .slice A9 n9 c9] 49)).grownBy w7 (Value.slice u0 nl uc).ownBlock->w7.heap[W.heap.size+2]?=some (.cells #[.slice u0 nl uc] 26) from fun w7 hg=>by
      have hx:=Qj yD (.cells #[.int .i64 i0, .int .i64 i1, .int .i64 i2, .int .i64 i3, .slice A9 n9 c9] 49);exact(hg.block _ (D0.1 hx).1 (Qi hx (by decide) zS)).trans hx)
     dsimp only;gi_wp2_with (gi_at_builtin;refine wpListIn_append_own _ rfl (.tmp 92) (.tmp 94) _ rfl w9.heap.size 49 js _ 5 56 underlying26 jX y4 y5 yc rfl (by decide) (.slice u0 nl uc) nl xs rfl zS ⟨U.heap.size,0,none⟩ 1 1 [.int .i64 i0, .int .i64 i1, .int .i64 i2, .int .i64 i3, .slice A9 n9 c9] rfl rfl jK.out (by simp[Value.oneCell']) (by simp only[maxLen];omega) (by omega) yj ?_;intro v7 w7 z9 zj _;obtain⟨A7,c7,rfl⟩:=QI z9;have zL:=zx.out w7 zj;have s18':=Qa zL 0 rfl;have f18':=Qf zL 0;have yg:=DY (DZ z9 (DZ zj zL));clear z9 zj zL)
     obtain⟨z9,zj,zL⟩:=yg.out;obtain⟨zd,d0,d1,d2,d3,d4,qB,qo⟩:=j8.out;have zQ:=Qo w7 (W.heap.size+2) 0 (.slice A7 (nl+1) c7);have hU1:U.alloc (.cells #[.int .i64 i0, .int .i64 i1, .int .i64 i2, .int .i64 i3, .slice A9 n9 c9] 49)=U.alloc (.cells #[.int .i64 i0, .int .i64 i1, .int .i64 i2, .int .i64 i3, .slice A9 n9 c9] 49):=rfl;have zu:∀k,k<V.heap.size->k≠W.heap.size->k≠W.heap.size+2->some k≠(Value.slice u0 nl uc).ownBlock->(w7.setCell ⟨W.heap.size+2,0,none⟩ (.slice A7 (nl+1) c7)).heap[k]?=V.heap[k]?:=fun k h1 h2 h3 h4=>by
      have hu:=zI.out.size;have ha:=(Qd U (.cells #[.int .i64 i0, .int .i64 i1, .int .i64 i2, .int .i64 i3, .slice A9 n9 c9] 49)).size;exact(zQ.block k (by have:=zj.size;omega) (fun e=>h3 (Nd e))).trans ((zj.block k (by omega) h4).trans (((Qd U _).block k (by omega)).trans (zI.out.block k h1 (fun e=>h2 (Nd e)))))
     have ji:V.heap.size<=(w7.setCell ⟨W.heap.size+2,0,none⟩ (.slice A7 (nl+1) c7)).heap.size:=D3 zI.out.size (D3 (Qd U _).size (D3 zj.size zQ.size));have qa:∀k,(Value.slice u0 nl uc).ownBlock=some k->w9.heap.size<=k:=fun k hk=>(jC.out.lt k hk).1
     have q5:Below W.heap.size V (w7.setCell ⟨W.heap.size+2,0,none⟩ (.slice A7 (nl+1) c7)):=⟨zQ.os.trans (zj.os.trans ((Qd U _).os.trans zI.out.os)),zQ.tape.trans (zj.tape.trans ((Qd U _).tape.trans zI.out.tape)),zQ.output.trans (zj.output.trans ((Qd U _).output.trans zI.out.output)),ji,fun k hk=>zu k (by have:=zi.out;omega) (by omega) (by omega) (fun e=>by have:=qa k e.symm;have:=z5.out;have:=z6.out;omega)⟩
     have hsum:(ze:Int)+(d.maps.length:Int)<=16384:=by
      unfold Js at zd;cases hdo:Xz bs data fuel ⟨p0,p1,p2⟩ ⟨r0,r1,r2⟩ with
      |none=>rw[hdo] at zd;cases zd
      |some x=>
       rw[hdo] at zd;replace zd:(if(ze:Int)+x.maps.length<=16384 then some x else none)=some d:=zd
       split at zd
       ·cases zd;assumption
       ·cases zd
     have hQ:=zw.out;rw[zd,Option.bind_some] at hQ;have jG:KeepsOthers V (w7.setCell ⟨W.heap.size+2,0,none⟩ (.slice A7 (nl+1) c7)):=(KeepsOthers.of_grownBy zI (fun j o e ho=>by cases e;rw[show V.heap[W.heap.size]?=_ from zq.out] at ho;cases ho;rfl)).trans ((KeepsOthers.alloc _ _).trans ((KeepsOthers.of_grownBy zj (fun j o e ho=>by
      rcases jC.out.2 with⟨hv,_⟩|⟨g,cap,cur,hv,_,yu,_⟩
      ·rw[hv] at e;cases e
      ·rw[hv] at e;obtain rfl:g=j:=Nd e;rw[yu] at ho;cases ho
       rfl)).trans (KeepsOthers.setCell _ _ _)))
     have qL:VR (w7.setCell ⟨W.heap.size+2,0,none⟩ (.slice A7 (nl+1) c7)) W.heap.size m data fuel (ze+n9):=by
      have h0:(U.alloc (.cells #[.int .i64 i0, .int .i64 i1, .int .i64 i2, .int .i64 i3, .slice A9 n9 c9] 49)).heap[W.heap.size]?=_:=Qe qo (Qd U _);have h1:=(D0.1 h0).1;exact(zQ.block _ (Nh h1 zj.size) (fun e=>by have:=Nd e;omega)).trans ((zj.block _ h1 (fun e=>by have:=qa _ e.symm;have:=z5.out;have:=z6.out;omega)).trans h0)
     have ym:=(zu (W.heap.size+1) (by have:=zi.out;omega) (by omega) (by omega) (fun e=>by have:=qa _ e.symm;have:=z5.out;have:=z6.out;omega)).trans jt;obtain rfl:=d0;obtain rfl:=d1;obtain rfl:=d2;obtain rfl:=d3;obtain rfl:=d4;have qH:=yz.out d _ _ w7 (QO (Qk qB (Qd U _)) ql) z9 zj;have j0:=qH.kept zQ (fun e he u' s n xs ho=> .inr (Qi zL (by rcases he with rfl|rfl<;>decide) ho).symm);refine⟨jG,⟨q5,zu _ (by have:=ql.out;have:=z5.out;have:=z6.out;omega) (by have:=z5.out;omega) (by have:=z5.out;omega) (fun e=>by have:=qa _ e.symm;have:=z6.out;omega),zu _ (by have:=ql.out;have:=z5.out;have:=z6.out;omega) (by have:=z5.out;omega) (by have:=z5.out;omega) (fun e=>by have:=qa _ e.symm;have:=z6.out;omega)⟩,ls++[d],ze+d.maps.length,_,?_,by omega,?_,zP.out.trans q5,ym,heap_setCell_same w7 (W.heap.size+2) 0 _ _ _ zL,j0,by exact_mod_cast qL,D3 ql ji⟩
     ·rw[jq.out,D7,Lj];have:=zs.out.1;have:=yn.out;omega
     ·rw[jq.out];exact hQ
    ·obtain⟨zd,qy⟩:Js bs data fuel ze ⟨p0,p1,p2⟩ ⟨r0,r1,r2⟩=none/\Qy 42 U U.heap.size (.iface vt vx):=by
      rcases zv with⟨d,_,h,_⟩|h
      ·cases h
      ·exact h
     have y8:=DY (show q=none by rw[zw.out,zd];rfl);have qd:=(D0.1 zK).1;have j6:=DY ((zo.block D (by have:=zi.out;omega) (fun e=>by have:=Nd e;omega)).trans ((zP.out.block D qd).trans zK));have zR:=DY qy;have jP:=DY (jg.out.trans ((D6 w.heap.size V).grown zo jg.out.size (fun k e=>by have:=Nd e;omega)));have yh:=DY (KeepsOthers.of_grownBy zo (fun j o e ho=>by cases e;rw[show V.heap[W.heap.size]?=_ from zq.out] at ho;cases ho;rfl));have s2:=Qa r7 0 rfl;have s3:=Qa e7 0 rfl;have f2:=Qf r7 0;have f3:=Qf e7 0;have zx:=DY r7;have qh:=DY e7;clear zd qy zv zo qF r7 e7;dsimp only;gi_wp2;have g2:=grownBy_setCell' U (w.heap.size+2) (.slice none 0 0);have r3:(U.setCell ⟨w.heap.size+2,0,none⟩ (.slice none 0 0)).heap[w.heap.size+3]?=some (.cells #[.nilIface] 32):=(heap_setCell_other _ _ _ _ (by simp)).trans qh;have g3:=grownBy_setCell' (U.setCell ⟨w.heap.size+2,0,none⟩ (.slice none 0 0)) (w.heap.size+3) (.iface vt vx);have r2:(U.setCell ⟨w.heap.size+2,0,none⟩ (.slice none 0 0)).heap[w.heap.size+2]?=some (.cells #[.slice none 0 0] 26):=Boxed.set _ zx;exact⟨yh.out.trans ((KeepsOthers.setCell _ _ _).trans (KeepsOthers.setCell _ _ _)),rfl,y8.out,(jP.out.setCell (p:=⟨w.heap.size+2,0,none⟩) (by simp) _).setCell (p:=⟨w.heap.size+3,0,none⟩) (by simp) _,(heap_setCell_other _ _ _ _ (by simp)).trans r2,(heap_setCell_other _ _ _ _ (by show D≠w.heap.size+3;omega)).trans ((heap_setCell_other _ _ _ _ (by show D≠w.heap.size+2;omega)).trans j6.out),vt,vx,Boxed.set _ r3,(((zR.out.grown zx.out (by decide) g2).more g2.size).grown r3 (by decide) g3).more g3.size⟩
  case stop2=>
   rintro D2 c pre V y7 ⟨k,hk,rfl⟩ ⟨rfl,hq,h3,h4,zV,vt,vx,h5,h6⟩ hK;have zA:(V.putObj D2 (.deferred none)).heap.size=V.heap.size:=by simp[World.putObj]
   have hD3:w.heap.size+3<D2:=by have:=z6.out;have:=z5.out;have:=zC.out.size;have:=(D0.1 zr).1;omega
   have q2:=Qa ((World.putObj_heap_other (o:= .deferred none) (w:=V) (show w.heap.size+2≠D2 by omega)).trans h4) 0 rfl;have q3:=Qa ((World.putObj_heap_other (o:= .deferred none) (w:=V) (show w.heap.size+3≠D2 by omega)).trans h5) 0 rfl;have h6':Qy 42 (V.putObj D2 (.deferred none)) (V.putObj D2 (.deferred none)).heap.size (.iface vt vx):=by
    rw[zA];exact h6.kept fun g cs hg=>(World.putObj_heap_other (fun e=>by subst e;rw[hg] at hK;cases hK)).trans hg
   have qd:=(Array.getElem?_eq_some_iff.1 zK).1;have yp:D≠D2:=by have:=z6.out;have:=z5.out;omega
   have zH:(V.putObj D2 (.deferred none)).heap[D]?=some (.deferred (some [])):=(World.putObj_heap_other (by omega)).trans zV;have j2:((V.putObj D2 (.deferred none)).putObj D (.deferred none)).heap.size=V.heap.size:=by simp[World.putObj]
   have g2:=Qa ((World.putObj_heap_other (o:= .deferred none) (w:=V.putObj D2 (.deferred none)) (show w.heap.size+2≠D by omega)).trans ((World.putObj_heap_other (o:= .deferred none) (w:=V) (show w.heap.size+2≠D2 by omega)).trans h4)) 0 rfl;have g3:=Qa ((World.putObj_heap_other (o:= .deferred none) (w:=V.putObj D2 (.deferred none)) (show w.heap.size+3≠D by omega)).trans ((World.putObj_heap_other (o:= .deferred none) (w:=V) (show w.heap.size+3≠D2 by omega)).trans h5)) 0 rfl;have h7':Qy 42 ((V.putObj D2 (.deferred none)).putObj D (.deferred none)) ((V.putObj D2 (.deferred none)).putObj D (.deferred none)).heap.size (.iface vt vx):=by
    rw[j2,<-zA];exact h6'.kept fun g cs hg=>(World.putObj_heap_other (fun e=>by subst e;rw[hg] at zH;cases zH)).trans hg
   refine wpIn_wide.2 ?_;go_wp2;refine⟨by simp, .inl ⟨_,_,rfl,run_takeDeferred hK,?_⟩⟩
   refine⟨by simp, .inl ⟨_,_,rfl,run_takeDeferred zH,?_⟩⟩
   refine⟨.tuple #[.slice none 0 0, .iface vt vx],(by rw[Z7 rfl];go_simp),?_⟩;have zk:Below w.heap.size w (V.putObj D2 (.deferred none)):=h3.trans ((D6 _ V).grown (grownBy_putObj' V D2 _) h3.size (fun k e=>by cases e;omega));exact⟨zk.trans ((Below.refl _ _).grown (grownBy_putObj' _ D _) zk.size (fun k e=>by cases e;omega)), .inr ⟨hq,_,rfl,h7'.up (by decide)⟩⟩
  case done2=>
   rintro D2 ys V y7 rfl ⟨ls,ze,u,h1,h2,h3,h4,h5,h6,h7,h8,h9⟩ hK;have jU:ls.length=sD.ents.length:=by rw[h1];exact jD.out
   have hq:q=some ls:=by
    rw[h3,jD.out,List.drop_eq_nil_of_le (by rw[List.length_zip];omega)];simp[ZU]
   have qd:=(Array.getElem?_eq_some_iff.1 zK).1;have q9:=(Array.getElem?_eq_some_iff.1 qT).1;have hv6:=(D0.1 h6).1;have r2:=(h4.block (w.heap.size+2) (by omega)).trans jr;have r3:=(h4.block (w.heap.size+3) (by omega)).trans qT;have zV:=(h4.block D qd).trans zK;obtain⟨u0,uc,hu⟩:=h7.form;subst hu;have yr:=Qa h6 0 rfl;have t2:=Qa r2 0 rfl;have t3:=Qa r3 0 rfl;have f2:=Qf r2 0;have f3:=Qf r3 0;have y9:=DY hq;have yx:=DY h4;have qI:=DY h6;have j9:=DY h7;have jA:=DY r2;have zU:=DY r3;have j8:=DY zV;have yl:=DY hK;clear h1 h2 h3 h4 h5 h6 h7 h8 h9 jU hq qd q9 r2 r3 zV hK;go_wp2;have hD2b:w.heap.size+3<D2:=by have:=z6.out;have:=z5.out;have:=zC.out.size;have:=(D0.1 zr).1;omega
   have yp:D≠D2:=by have:=z6.out;have:=z5.out;have:=(D0.1 zK).1;omega
   obtain⟨V2,zy⟩:=DR ((V.setCell ⟨w.heap.size+1+1,0,none⟩ (.slice u0 ls.length uc)).setCell ⟨w.heap.size+1+1+1,0,none⟩ .nilIface);rw[<-zy];have g2:=grownBy_setCell' V (w.heap.size+2) (.slice u0 ls.length uc);have g3:=grownBy_setCell' (V.setCell ⟨w.heap.size+2,0,none⟩ (.slice u0 ls.length uc)) (w.heap.size+3) .nilIface;have e2:(V.setCell ⟨w.heap.size+2,0,none⟩ (.slice u0 ls.length uc)).heap[w.heap.size+2]?=some (.cells #[.slice u0 ls.length uc] 26):=Boxed.set _ jA;have e3:(V.setCell ⟨w.heap.size+2,0,none⟩ (.slice u0 ls.length uc)).heap[w.heap.size+3]?=some (.cells #[.nilIface] 32):=(heap_setCell_other _ _ _ _ (by simp)).trans zU;have p3:V2.heap[w.heap.size+3]?=some (.cells #[.nilIface] 32):=by rw[zy];exact Boxed.set _ e3
   have p2:V2.heap[w.heap.size+2]?=some (.cells #[.slice u0 ls.length uc] 26):=by rw[zy];exact(heap_setCell_other _ _ _ _ (by simp)).trans e2
   have zk:Below w.heap.size w V2:=by
    rw[zy];exact((zC.out.trans (yx.out.mono zC.out.size)).setCell (p:=⟨w.heap.size+2,0,none⟩) (by simp) _).setCell (p:=⟨w.heap.size+3,0,none⟩) (by simp) _
   have jT:Qt V2 w9.heap.size (.slice u0 ls.length uc) ls:=by
    rw[zy];exact(j9.out.kept g2 (fun e he u' s n xs ho=> .inr (Qi jA.out (by rcases he with rfl|rfl<;>decide) ho).symm)).kept g3 (fun e he u' s n xs ho=> .inr (Qi e3 (by rcases he with rfl|rfl<;>decide) ho).symm)
   have k2:V2.heap[D2]?=some (.deferred (some [])):=by
    rw[zy];exact(heap_setCell_other _ _ _ _ (by show D2≠w.heap.size+3;omega)).trans ((heap_setCell_other _ _ _ _ (by show D2≠w.heap.size+2;omega)).trans yl)
   have k1:V2.heap[D]?=some (.deferred (some [])):=by
    rw[zy];exact(heap_setCell_other _ _ _ _ (by show D≠w.heap.size+3;omega)).trans ((heap_setCell_other _ _ _ _ (by show D≠w.heap.size+2;omega)).trans j8)
   have k3:(V2.putObj D2 (.deferred none)).heap[D]?=some (.deferred (some [])):=(World.putObj_heap_other (by omega)).trans k1;have m2:=Qa ((World.putObj_heap_other (o:= .deferred none) (w:=V2.putObj D2 (.deferred none)) (show w.heap.size+2≠D by omega)).trans ((World.putObj_heap_other (o:= .deferred none) (w:=V2) (show w.heap.size+2≠D2 by omega)).trans p2)) 0 rfl;have m3:=Qa ((World.putObj_heap_other (o:= .deferred none) (w:=V2.putObj D2 (.deferred none)) (show w.heap.size+3≠D by omega)).trans ((World.putObj_heap_other (o:= .deferred none) (w:=V2) (show w.heap.size+3≠D2 by omega)).trans p3)) 0 rfl;have ya:=((jT.turned (o':= .deferred none) k2 rfl).turned (o':= .deferred none) k3 rfl).mono (base':=w.heap.size) (by have:=z6.out;have:=z5.out;omega);have jB:Below w.heap.size w (V2.putObj D2 (.deferred none)):=zk.trans ((D6 _ V2).grown (grownBy_putObj' V2 D2 _) zk.size (fun k e=>by cases e;omega));clear zy;refine⟨by simp, .inl ⟨_,_,rfl,run_takeDeferred k2,?_⟩⟩
   refine⟨by simp, .inl ⟨_,_,rfl,run_takeDeferred k3,?_⟩⟩
   refine⟨.tuple #[.slice u0 ls.length uc, .nilIface],(by rw[Z7 rfl];go_simp),?_⟩;exact⟨jB.trans ((Below.refl _ _).grown (grownBy_putObj' _ D _) jB.size (fun k e=>by cases e;omega)), .inl ⟨ls,_,y9.out,rfl,ya⟩⟩
end
end Go.Proofs.YtijcgllddnpmhaaGreatDoor
