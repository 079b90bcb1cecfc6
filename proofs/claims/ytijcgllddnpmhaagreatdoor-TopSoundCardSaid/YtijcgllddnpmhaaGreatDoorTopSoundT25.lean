/- TopSound: lemmas, part 25. -/
import Derived.Test.YtijcgllddnpmhaaGreatDoorTopSoundT23
set_option maxRecDepth 100000
set_option maxHeartbeats 16000000
set_option linter.all false
namespace Go.Proofs.YtijcgllddnpmhaaGreatDoor
open Go.RowKit Go.Proofs.Tryz
def Zd(d:Nat)(t:TypeId)(s:Nat)(xs:Option (List Value))(w:World)(e:Ending)(w':World):Prop:=
 ((∃l A n c,xs=some l/\e= .returned (.tuple #[.slice A n c, .nilIface])/\l.length=n*s/\n<=c/\w'.ownsRow w.heap.size t s (.slice A n c) n l)∨(xs=none/\∃v,e= .returned (.tuple #[.slice none 0 0,v])/\Qy d w' w'.heap.size v))/\Below w.heap.size w w'
theorem Zd.err{d t s:Nat}{xs:Option (List Value)}{w w':World}{v:Value}(hx:xs=none)(hv:Qy d w' w'.heap.size v)(hb:Below w.heap.size w w'):Zd d t s xs w (.returned (.tuple #[.slice none 0 0,v])) w':=⟨.inr ⟨hx,v,rfl,hv⟩,hb⟩
theorem Zd.gives{d t s:Nat}{xs:Option (List Value)}{w w':World}{l:List Value}{A:Option Addr}{n c:Nat}(hx:xs=some l)(hl:l.length=n*s)(hc:n<=c)(ho:w'.ownsRow w.heap.size t s (.slice A n c) n l)(hb:Below w.heap.size w w'):Zd d t s xs w (.returned (.tuple #[.slice A n c, .nilIface])) w':=⟨.inl ⟨l,A,n,c,hx,rfl,hl,hc,ho⟩,hb⟩
theorem bits_small{bs:List UInt8}{no:Int}{l:List Int}(h:ZV bs no=some l):l.length<=960:=by
 unfold ZV at h;cases hp:OC bs no 3 with
 |none=>rw[hp] at h;cases h
 |some p=>
  rw[hp] at h;replace h:Of p=some l:=h;unfold Of at h
  split at h
  ·rename_i h1
   cases h;unfold GV;rw[if_pos h1,digs_len];unfold Ui at h1
   split at h1
   ·split at h1
    ·rename_i h2;omega
    ·cases h1
   ·cases h1
  ·cases h
theorem counts_any{w:World}{base m:Nat}{bs:List UInt8}(hi:ZH w base m bs)(hbs:base<=w.heap.size)(s0 s1 s2 at_ e0 want:Int):
  Calls prog 126 #[.agg #[.int .i64 s0, .int .i64 s1, .int .i64 s2, .int .i64 at_, .int .i64 e0], .pointer (some ⟨m,0,none⟩), .int .i64 want] w (Zd 3 3 1 ((Zm bs (if e0=0 then some (s0,s1,s2) else none) want).map iv) w):=by
 obtain⟨w1,z8,z7,z4⟩:=DS w (.cells #[.int .i64 s0, .int .i64 s1, .int .i64 s2, .int .i64 at_, .int .i64 e0] 152);have z5:=DY z7;have z9:=DY z4;have KB:=EX (hi.below (z7.mono hbs)) s0;obtain⟨q,hq⟩:=DR (Zm bs (if e0=0 then some (s0,s1,s2) else none) want);rw[<-hq];have HQ:=DY hq;clear z7 hi hbs hq;have k3:=Qa z4 3 rfl;have k4:=Qa z4 4 rfl;obtain⟨k0,k1,k2⟩:=DV z4;clear z4;go_enter func126,ntmps126
 go_upto_region 1 with fail
 rw[<-z8];clear z8;by_cases he:e0=0
 case neg=>
  have HN:=DY (show q.map iv=none by rw[HQ.out,if_neg he];rfl);have d1:(e0 !=0)=true:=by rw[bne_iff_ne];exact he
  have K:=Xk 0 at_ (.iface 37 (.int .i64 e0)) w1 (Qy.num _ _ _ _);clear he HQ KB k0 k1 k2;go_wp2_with fail
  refine K.mono ?_;rintro e w2 ⟨v,rfl,hv,z1⟩;have HV:=DY hv;have z2:=DY z1;obtain⟨vt,vx,rfl⟩:=hv.form;clear K hv z1;go_wp2;go_ret2
  exact Zd.err HN.out (HV.out.up (by decide)) (Qb z5.out z2.out)
 replace HQ:=Lib.hid (show q=Zm bs (some (s0,s1,s2)) want by rw[HQ.out,if_pos he]);subst he;go_wp2_with fail
 refine KB.mono ?_;rintro e w2 ⟨⟨L,A,n,c,hL,rfl,hl,hc,ho⟩|⟨hL,v,rfl,hv⟩,z1⟩
 case inr=>
  have HN:=DY (show q.map iv=none by
   rw[HQ.out];have:ZV bs s0=none:=by cases h:ZV bs s0 with
    |none=>rfl
    |some x=>rw[h] at hL;cases hL
   unfold Zm;rw[Option.bind_some,this]
   rfl)
  have K:=Xk 1 at_ v w2 hv;have k3:=Qg z1 k3;have z2:=DY z1;obtain⟨vt,vx,rfl⟩:=hv.form;clear hL hv z1 HQ KB k0 k1 k2;go_wp2_with fail
  refine K.mono ?_;rintro e w3 ⟨v3,rfl,hv,z0⟩;have HV:=DY hv;have z3:=DY z0;obtain⟨ut,ux,rfl⟩:=hv.form;clear K hv z0;go_wp2;go_ret2
  exact Zd.err HN.out (HV.out.up (by decide)) (Qb (Qb z5.out z2.out) z3.out)
 obtain⟨l,z6,rfl⟩:∃l,ZV bs s0=some l/\L=iv l:=by
  cases h:ZV bs s0 with
  |none=>rw[h] at hL;cases hL
  |some x=>rw[h] at hL;cases hL;exact⟨x,rfl,rfl⟩
 have hn:n=l.length:=by simpa[iv] using hl.symm
 subst hn;have HS:=DY (show q=if(l.length:Int)=want/\(Q9 l:Int)=s1/\(Zp l:Int)=s2 then some l else none by
  rw[HQ.out];unfold Zm;rw[Option.bind_some,z6,Option.bind_some])
 have hlm:=bits_small z6;have K:=Ki A c l w2 _ (by simp only[reachBytes];omega) (Qh.of_own ho);have HO:=DY (Q7 ho z5.out.size);have HC:=DY hc;have z2:=DY (Qb z5 z1);have k1:=Qg z1 k1;have k2:=Qg z1 k2;have k3:=Qg z1 k3;have KA:=fun n=>Xk 0 at_ (.iface 37 (.int .i64 n)) w2 (Qy.num _ _ _ _)
 clear hL hl hc ho z6 HQ KB z9 z1 k0 k4;by_cases hw:(l.length:Int)=want
 case neg=>
  have HN:=DY (show q.map iv=none by rw[HS.out,if_neg (fun h=>hw h.1)];rfl);have d1:((l.length:Int) !=want)=true:=by rw[bne_iff_ne];exact hw
  have KA:=KA 7;clear hw HS K;go_wp2_with fail
  refine KA.mono ?_;rintro e w3 ⟨v3,rfl,hv,z0⟩;have HV:=DY hv;have z3:=DY z0;obtain⟨ut,ux,rfl⟩:=hv.form;clear KA hv z0;go_wp2;go_ret2
  exact Zd.err HN.out (HV.out.up (by decide)) (Qb z2.out z3.out)
 have d1:((l.length:Int) !=want)=false:=by rw[hw];simp
 have HW:=DY hw;clear hw;generalize hzz:(Q9 l:Int)=z at*;generalize hff:(Zp l:Int)=f at*;go_wp2_with fail
 refine K.mono ?_;rintro e wx ⟨rfl,rfl⟩;clear K hzz hff;have KA:=KA 13;by_cases h1:z=s1
 case neg=>
  have HN:=DY (show q.map iv=none by rw[HS.out,if_neg (fun h=>h1 h.2.1)];rfl);have d2:(z !=s1)=true:=by rw[bne_iff_ne];exact h1
  clear h1 HS;go_wp2_with fail
  refine KA.mono ?_;rintro e w3 ⟨v3,rfl,hv,z0⟩;have HV:=DY hv;have z3:=DY z0;obtain⟨ut,ux,rfl⟩:=hv.form;clear KA hv z0;go_wp2;go_ret2
  exact Zd.err HN.out (HV.out.up (by decide)) (Qb z2.out z3.out)
 have d2:(z !=s1)=false:=by rw[h1];simp
 have H1:=DY h1;clear h1;by_cases h2:f=s2
 case neg=>
  have HN:=DY (show q.map iv=none by rw[HS.out,if_neg (fun h=>h2 h.2.2)];rfl);have d3:(f !=s2)=true:=by rw[bne_iff_ne];exact h2
  clear h2 HS;go_wp2_with fail
  refine KA.mono ?_;rintro e w3 ⟨v3,rfl,hv,z0⟩;have HV:=DY hv;have z3:=DY z0;obtain⟨ut,ux,rfl⟩:=hv.form;clear KA hv z0;go_wp2;go_ret2
  exact Zd.err HN.out (HV.out.up (by decide)) (Qb z2.out z3.out)
 have d3:(f !=s2)=false:=by rw[h2];simp
 have H2:=DY h2;clear h2 KA;go_wp2;go_ret2
 exact Zd.gives (by rw[HS.out,if_pos ⟨HW.out,H1.out,H2.out⟩];rfl) (by simp[iv]) HC HO z2
def setAll(b:Nat):World->Nat->List Value->World
 |w,_,[]=>w
 |w,i,x::xs=>setAll b (w.setCell ⟨b,i,none⟩ x) (i+1) xs
theorem Ya(b:Nat):∀(xs:List Value) (w:World) (i:Nat),w.grownBy (setAll b w i xs) (some b)
 |[],w,_=>NT w _
 |x::xs,w,i=>by
  have h:=Qo w b i x;have k:=Ya b xs (w.setCell ⟨b,i,none⟩ x) (i+1);exact⟨k.os.trans h.os,k.tape.trans h.tape,k.output.trans h.output,D3 h.size k.size,fun j hj hr=>(k.block j (Nh hj h.size) hr).trans (h.block j hj hr)⟩
theorem Rl(no e:Int)(h:e≠0)(w:World):Calls prog 119 #[.int .i64 no, .int .i64 e] w (GF 1 w):=by
 have K:=Xk 0 no (.iface 37 (.int .i64 e)) w (Qy.num _ _ _ _);have d1:(e==0)=false:=by rw[beq_eq_false_iff_ne];exact h
 clear h;go_enter func119,ntmps119
 go_wp2_with fail
 refine K.mono ?_;rintro e w2 ⟨v,rfl,hv,hb⟩;have HX:=DY (DZ hv hb);obtain⟨t,x,rfl⟩:=hv.form;clear K hv hb;go_wp2;go_ret;exact⟨_,rfl,HX.out.1,HX.out.2⟩
def GivesMp(q:Option ZO)(w:World)(e:Ending)(w':World):Prop:=
 ((∃m,q=some m/\e= .returned (.tuple #[.agg #[.int .i64 m.v, .int .i64 m.b, .int .i64 m.t], .nilIface]))∨
  (q=none/\∃v,e= .returned (.tuple #[.agg #[.int .i64 0, .int .i64 0, .int .i64 0],v])/\Qy 1 w' w'.heap.size v))/\Below w.heap.size w w'
theorem Dq(g:Nat)(key:Int)(val:List UInt8)(at_ data:Int)(w:World)(hd:w.cell? ⟨g,1,none⟩=some (.int .i64 data))(hv:val.length<=reachBytes):
  Calls prog 234 #[.pointer (some ⟨g,0,none⟩), .agg #[.int .i64 key, .string ⟨val.toArray⟩, .int .i64 at_]] w (GivesMp (ZN data ⟨key,val,at_⟩) w):=by
 obtain⟨q,hq⟩:=DR (ZN data ⟨key,val,at_⟩);rw[<-hq];unfold ZN at hq;obtain⟨w1,z7,z8,z6⟩:=DT w (.cells #[.int .i64 key, .string ⟨val.toArray⟩, .int .i64 at_] 146) (.cells #[.int .i64 0, .int .i64 0, .int .i64 0] 52);have zf:w1.heap[w.heap.size+1]?=some (.cells #[.int .i64 0, .int .i64 0, .int .i64 0] 52):=by
  rw[z7,show w.heap.size+1=(w.alloc (.cells #[.int .i64 key, .string ⟨val.toArray⟩, .int .i64 at_] 146)).heap.size by simp]
  exact heap_alloc_new _ _
 have KM:=Ol val w1 hv;have zg:=DY z8;have k1:=Qa z6 1 rfl;have ze:=DY z6;have zd:=DY zf;have zc:=DY (Qg z8 hd);have HQ:=DY hq;dsimp only at HQ;clear z8 z6 zf hd hv hq;generalize rd1 XU val / 16777216=x0 at*;generalize rd1 XU val % 16777216=x1 at*;generalize rdE [XU] val=er at*;go_enter func234,ntmps234
 go_upto_region 1 with fail
 rw[show(w.alloc (.cells #[.int .i64 key, .string ⟨val.toArray⟩, .int .i64 at_] 146)).alloc (.cells #[.int .i64 0, .int .i64 0, .int .i64 0] 52)=w1 from z7.symm]
 clear z7;go_wp2_with fail
 refine KM.mono ?_;rintro e w2 ⟨rfl,z3⟩;have z4:=DY (Qb zg z3);have z5:=Qe ze z3;have z2:=Qe zd z3;have HK2:=DY z5;have z9:=DY z2;have zb:=Qg z3 zc;have y0:=Qa z5 0 rfl;have y2:=Qa z5 2 rfl;have f0:=Qf z2 0;have f1:=Qf z2 1;have f2:=Qf z2 2;obtain⟨u0,u1,u2⟩:=DV z2;clear KM z3 ze zd zc z5 z2 k1;have KA:=DY (fun(n:Int) (hn:n≠0)=>Rl at_ n hn w2);have za:=DY (show∀w3 (v:Value) W,Below w2.heap.size w2 w3->Qy 1 w3 w3.heap.size v->w3.grownBy W (some (w.heap.size+1))->q=none->GivesMp q w (.returned (.tuple #[.agg #[.int .i64 0, .int .i64 0, .int .i64 0],v])) W from fun w3 v W hb hv hg hq=>by
  refine⟨.inr ⟨hq,v,rfl,(hv.grown (Qe z9.out hb) (by decide) hg).more hg.size⟩,(Qb z4.out hb).grown hg (D3 z4.out.size hb.size) (fun k hk=>by have:=Nd hk;omega)⟩)
 by_cases he:er=0
 ·subst he;by_cases hd:x0<data
  ·have d1:decide (data<=x0)=false:=decide_eq_false (by omega);have HS:=DY (show q=some ⟨key,x0,x1⟩ by rw[HQ.out,if_pos ⟨rfl,hd⟩]);have zh:=DY (z4.out.grown (Ya (w.heap.size+1) [.int .i64 key, .int .i64 x0, .int .i64 x1] w2 0) z4.out.size (fun k hk=>by have:=Nd hk;omega));clear hd HQ KA;go_wp2;refine bodyPost_ret (v:= .tuple #[.agg #[.int .i64 key, .int .i64 x0, .int .i64 x1], .nilIface]) (by rw[results_cell_tmp rfl];go_simp) rfl ?_;exact⟨.inl ⟨_,HS.out,rfl⟩,zh.out⟩
  ·have d1:decide (data<=x0)=true:=decide_eq_true (by omega);have HS:=DY (show q=none by rw[HQ.out,if_neg (fun h=>hd h.2)]);have K:=KA.out 2 (by decide);clear hd HQ KA;go_wp2_with fail
   refine K.mono ?_;rintro e w3 ⟨v,rfl,hv,z1⟩;have HX:=DY (DZ hv z1);have z0:=Qe z9 z1;obtain⟨t0,t1,t2⟩:=DV z0;have g0:=Qf z0 0;have g1:=Qf z0 1;have g2:=Qf z0 2;obtain⟨vt,vx,rfl⟩:=hv.form;clear K hv z1 z0 u0 u1 u2 f0 f1 f2 y0 y2 zb;go_wp2;refine bodyPost_ret (v:= .tuple #[.agg #[.int .i64 0, .int .i64 0, .int .i64 0], .iface vt vx]) (by rw[results_cell_tmp rfl];go_simp) rfl ?_;exact za.out w3 _ _ HX.out.2 HX.out.1 (Ya (w.heap.size+1) [.int .i64 0, .int .i64 0, .int .i64 0] w3 0) HS
 ·have d1:(er==0)=false:=by rw[beq_eq_false_iff_ne];exact he
  have HS:=DY (show q=none by rw[HQ.out,if_neg (fun h=>he h.1)]);have K:=KA.out er he;have d2:(er !=0)=true:=by rw[bne_iff_ne];exact he
  clear he HQ KA;go_wp2_with fail
  refine K.mono ?_;rintro e w3 ⟨v,rfl,hv,z1⟩;have HX:=DY (And.intro hv z1);have z0:=Qe z9 z1;obtain⟨t0,t1,t2⟩:=DV z0;have g0:=Qf z0 0;have g1:=Qf z0 1;have g2:=Qf z0 2;obtain⟨vt,vx,rfl⟩:=hv.form;clear K hv z1 z0 u0 u1 u2 f0 f1 f2 y0 y2 zb;go_wp2;refine bodyPost_ret (v:= .tuple #[.agg #[.int .i64 0, .int .i64 0, .int .i64 0], .iface vt vx]) (by rw[results_cell_tmp rfl];go_simp) rfl ?_;exact za.out w3 _ _ HX.out.2 HX.out.1 (Ya (w.heap.size+1) [.int .i64 0, .int .i64 0, .int .i64 0] w3 0) HS
end Go.Proofs.YtijcgllddnpmhaaGreatDoor
