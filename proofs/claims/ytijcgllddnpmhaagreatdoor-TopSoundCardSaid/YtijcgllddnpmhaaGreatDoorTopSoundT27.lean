/- TopSound: lemmas, part 27. -/
import Derived.Test.YtijcgllddnpmhaaGreatDoorTopSoundT26
set_option maxRecDepth 100000
set_option maxHeartbeats 16000000
set_option linter.all false
namespace Go.Proofs.YtijcgllddnpmhaaGreatDoor
open Go.RowKit Go.Proofs.Tryz
theorem Tryz.infoPlc:(prog.info? 152).map (fun i=>(i.zero,i.size,i.bytes))=some (some (.agg #[.int .i64 0, .int .i64 0, .int .i64 0, .int .i64 0, .int .i64 0]),5,40):=by kernel_rfl
theorem KE(n:Int)(hn0: -1000000<=n)(hn:n<=1000000)(w:World):Calls prog 70 #[.int .i64 n] w fun e w'=>e= .returned (.int .i64 (ZS n))/\w=w':=by
 by_cases h:n<1
 ·have d1:decide (n<1)=true:=decide_eq_true h;have hv:ZS n=0:=by unfold ZS;rw[if_pos h]
  rw[hv];clear hv h;go_enter func70,ntmps70
  go_wp2;go_ret;exact⟨rfl,rfl⟩
 ·have d1:decide (n<1)=false:=decide_eq_false h;obtain⟨r,hr⟩:=DR (ZS n);rw[<-hr];have h1:wrap64 (n-1)=n-1:=by unfold wrap64;omega
  have h2:r=wrap64 (wrap64 ((n-1).tdiv 960)+1):=by rw[hr,Int.tdiv_eq_ediv_of_nonneg (by omega)];unfold ZS wrap64;rw[if_neg h];omega
  have H2:=DY h2;clear hr h hn0 hn h2;go_enter func70,ntmps70
  go_wp2;go_ret;exact⟨by rw[H2.out];rfl,rfl⟩
theorem UW{w:World}{base m:Nat}{bs:List UInt8}(hi:ZH w base m bs)(hbs:base<=w.heap.size)(index over n fuel:Int)(hfu:fuel<=1000000)(hn1:n<=65536)(hn0: -1000000<=n):
  Calls prog 28 #[.pointer (some ⟨m,0,none⟩), .int .i64 index, .int .i64 over, .int .i64 n, .int .i64 fuel] w (Zd 41 3 1 ((X3 bs index over n fuel).map iv) w):=by
 obtain⟨js,zx,zy,zz,zt⟩:=info_parts Tryz.infoPlc;obtain⟨q,hq⟩:=DR (X3 bs index over n fuel);rw[<-hq];have HQ:=DY (show q=(Zs bs index).bind fun ss=>if(ss.length:Int)=ZS n then UM bs (ss.map some) over n fuel else none by rw[hq];rfl);have KI:=GB hi index;have HI:=DY (DZ hi hbs);have HN:=DY (DZ hn1 (DZ hn0 hfu));have KB:=fun W=>KE n hn0 (by omega) W
 have zs:=DY (fun(W:World)=>Xk 0 index (.iface 37 (.int .i64 7)) W (Qy.num _ _ _ _));clear hq hi hbs hn1 hn0 hfu;go_enter func28,ntmps28
 go_wp2_with fail
 refine KI.mono ?_;rintro e w2 ⟨⟨L,A2,n2,c2,hL,rfl,hl,hc,z3⟩|⟨hL,v,rfl,hv⟩,z7⟩
 case inr=>
  have HX:=DY (And.intro hv z7);have HS:=DY (show q=none by
   rw[HQ.out];cases hx:Zs bs index with
   |none=>rfl
   |some x=>rw[hx] at hL;cases hL)
  obtain⟨t,x,rfl⟩:=hv.form;clear KI hL hv z7 KB;go_wp2;go_ret2
  exact Zd.err (by rw[HS.out];rfl) (HX.out.1.up (by decide)) HX.out.2
 obtain⟨l,za,rfl⟩:∃l,Zs bs index=some l/\L=tv l:=by
  cases hx:Zs bs index with
  |none=>rw[hx] at hL;cases hL
  |some x=>rw[hx] at hL;cases hL;exact⟨x,rfl,rfl⟩
 rw[tv_len] at hl;obtain rfl:n2=l.length:=by omega
 have zw:=Uc za;have HM:=DY (show ZI w2 w2.heap.size A2 l from ZI.of_own rfl z3);have zc:=DY (show q=if(l.length:Int)=ZS n then UM bs (l.map some) over n fuel else none by rw[HQ.out,za];rfl);have z6:=DY z7;have z8:=KB w2;clear KI hL hl hc z3 za z7 HQ KB;generalize ZS n=bn at*;by_cases hlen:(l.length:Int)=bn
 case neg=>
  have d1:((l.length:Int) !=bn)=true:=by rw[bne_iff_ne];exact hlen
  have HS:=DY (show q=none by rw[zc.out,if_neg hlen]);have KA:=zs.out w2;clear hlen;go_wp2_with fail
  refine z8.mono ?_;rintro e wx ⟨rfl,rfl⟩;clear z8;go_wp2_with fail
  refine KA.mono ?_;rintro e w3 ⟨v,rfl,hv,zi⟩;have HX:=DY (And.intro hv zi);obtain⟨t,x,rfl⟩:=hv.form;clear KA hv zi;go_wp2;go_ret2
  exact Zd.err (by rw[HS.out];rfl) (HX.out.1.up (by decide)) (Qb z6.out HX.out.2)
 have d1:((l.length:Int) !=bn)=false:=by rw[hlen];simp
 have zu:=DY (show q=UM bs (l.map some) over n fuel by rw[zc.out,if_pos hlen]);clear hlen;go_wp2_with fail
 refine z8.mono ?_;rintro e wx ⟨rfl,rfl⟩;clear z8 zc;have zo:=DY zw;go_wp2_with fail
 clear d1;go_loopw [14,36] (fun v i wr=>∃(k:Nat) (ps:List (S3×Int×Int)),k<=l.length/\i= .int .i64 k/\Hid (ps.length=k/\Below w2.heap.size w2 wr/\wr.ownsRow w2.heap.size 152 5 v k (pv ps)/\ps.map UJ=(l.take k).map some)) (fun v i _=>l.length-(intOf i).toNat)
 case atStart=>exact⟨0,[],by omega,rfl,DY ⟨rfl,D6 _ _,Nb _ _ _ _,rfl⟩⟩
 case round=>
  obtain⟨k,ps,hk,rfl,HH⟩:=hrel;by_cases hlt:k<l.length
  ·obtain⟨b,o,rfl,hb',hc⟩:=(HM.out.below HH.out.2.1) (by omega);obtain⟨x0,x1,x2,hx⟩:∃x0 x1 x2,l[k]=(x0,x1,x2):=⟨_,_,_,rfl⟩;obtain⟨e0,e1,e2⟩:=hc k _ (D1 hlt);rw[hx] at e0 e1 e2;dsimp only at e0 e1 e2;obtain⟨wa,zq,z9,zl⟩:=DS wr (.cells #[.int .i64 x0, .int .i64 x1, .int .i64 x2] 148);obtain⟨z0,z1,z2⟩:=DV zl;have zm:=DY z9;have z5:=Qk HH.out.2.2.1 z9;have z3:=z5.alloc (.cells #[.int .i64 x0, .int .i64 x1, .int .i64 x2, .int .i64 index, .int .i64 0] 152);have zk:w2.heap.size<=(wa.alloc (.cells #[.int .i64 x0, .int .i64 x1, .int .i64 x2, .int .i64 index, .int .i64 0] 152)).heap.size:=D3 HH.out.2.1.size (D3 z9.size (Qd wa _).size);have zD:=DY (show(ps++[((x0,x1,x2),index,0)]).map UJ=(l.take (k+1)).map some by
    rw[Ns,HH.out.2.2.2,Nl hlt,Ns,hx]
    rfl)
   have hkl:k<=15:=by have:=zo.out;omega
   clear hx hc hb' z9 zl z5;go_upto_region 10 with fail
   rw[<-zq];clear zq e0 e1 e2;go_wp2_with (at_builtin;refine Qq _ rfl (.tmp 40) (.tmp 44) _ rfl w2.heap.size 5 152 js _ 40 underlying144 zx zy zz zt rfl (by decide) _ k (pv ps) rfl z3 _ _ 1 1 [.int .i64 x0, .int .i64 x1, .int .i64 x2, .int .i64 index, .int .i64 0] rfl rfl (Qh.new wa [.int .i64 x0, .int .i64 x1, .int .i64 x2, .int .i64 index, .int .i64 0] 152 (0,0)) (by simp[Value.oneCell']) (by simp only[maxLen];omega) (by omega) zk ?_;intro A7 c7 w7 z4 zC zf _)
   have zB:=DY z4;have zA:=DY zf;clear z4 zC zf z3 zk z0 z1 z2;go_roundw
   case rel=>exact⟨k+1,ps++[((x0,x1,x2),index,0)],by omega,by go_num,DY ⟨by rw[D7,HH.out.1];rfl,(HH.out.2.1.trans (zm.out.mono HH.out.2.1.size)).trans (((Qd wa _).mono (D3 HH.out.2.1.size zm.out.size)).trans zA),by rw[Ei];exact zB.out,zD.out⟩⟩
   case measure=>simp[intOf];omega
  ·obtain rfl:k=l.length:=by omega
   obtain⟨A9,c9,zj⟩:=QI HH.out.2.2.1;have zb:=HH.out.2.2.1;rw[zj] at zb;have ze:=HH.out.1;have hM:GW wr wr.heap.size A9 ps:=GW.of_own (by omega) zb;have zn:=D3 HI.out.2 (D3 z6.out.size HH.out.2.1.size);have K:=OR ((HI.out.1.below (z6.out.mono HI.out.2)).below (HH.out.2.1.mono (D3 HI.out.2 z6.out.size))) zn A9 c9 ps over n fuel HN.out.2.2 (by have:=zo.out;omega) HN.out.1 HN.out.2.1 hM;have zg:=DY (show q=UM bs (ps.map UJ) over n fuel by rw[zu.out,HH.out.2.2.2,Nw]);rw[ze] at K;subst zj;clear zb ze hM zn;generalize UM bs (ps.map UJ) over n fuel=q2 at*;go_wp2_with fail
   refine K.mono ?_;rintro e w4 ⟨h4,zd⟩;have zr:=DY (Qb (Qb z6 HH.out.2.1) zd);have zv:=DY (D3 z6.out.size HH.out.2.1.size);rcases h4 with⟨L,A5,n5,c5,hL,rfl,zp,DX,zh⟩|⟨hL,v,rfl,hv⟩
   ·have HX:=Lib.hid (DZ hL (DZ zp (DZ DX zh)));clear K hL zp DX zh zd;go_wp2;go_ret2
    exact Zd.gives (by rw[zg.out];exact HX.out.1) HX.out.2.1 HX.out.2.2.1 (Q7 HX.out.2.2.2 zv) zr
   ·have HX:=Lib.hid (DZ hL hv);obtain⟨t,x,rfl⟩:=hv.form;clear K hL hv zd;go_wp2;go_ret2
    exact Zd.err (by rw[zg.out];exact HX.out.1) HX.out.2 zr
theorem DE:∀(es:List Qv) (k:Nat) (i:Int),k<es.length->Xv i (es.drop k)=(decide ((es.getD k zE).key=i)&&Xv (i+1) (es.drop (k+1))):=by
 intro es k i h;rw[NO h]
 show(decide (es[k].key=i)&&Xv (i+1) (es.drop (k+1)))=_
 rw[D9,D1 h]
 rfl
theorem bitmapsN_le{n:Int}(h:n<=65536):ZS n<=69:=by unfold ZS;split<;>omega
theorem UX{w:World}{base m:Nat}{bs:List UInt8}(hi:ZH w base m bs)(hbs:base<=w.heap.size)(index over n fuel:Int)(hfu:fuel<=1000000)(hn1:n<=65536)(hn0: -1000000<=n):
  Calls prog 27 #[.pointer (some ⟨m,0,none⟩), .int .i64 index, .int .i64 over, .int .i64 n, .int .i64 fuel] w (Zd 41 3 1 ((Xu bs index over n fuel).map iv) w):=by
 obtain⟨js,zP,zR,zT,zM⟩:=info_parts Tryz.infoPlc;obtain⟨q,hq⟩:=DR (Xu bs index over n fuel);rw[<-hq];obtain⟨st,zi⟩:=DR (QP bs index 4 fuel);have KW:=OX index 4 fuel hfu w (hi.more hbs);have z5:=Ur bs index 4 fuel;have HQ:=DY (show q=if st.bad=true then none else if(st.ents.length:Int)=ZS n/\Xv 0 st.ents=true then UM bs (st.ents.map fun e=>Y9 e.val) over n fuel else none by
  rw[hq,zi];unfold Xu Xw
  split<;>rfl)
 rw[<-zi] at KW z5;have HI:=DY (DZ hi hbs);have HN:=DY (DZ hn1 (DZ hn0 hfu));have KB:=DY (fun W=>KE n hn0 (by omega) W);have zo:=DY (fun(W:World)=>Xk 0 index (.iface 37 (.int .i64 7)) W (Qy.num _ _ _ _));have HV:=DY z5;clear hq zi hi hbs hn1 hn0 hfu z5;go_enter func27,ntmps27
 go_wp2_with fail
 refine KW.mono ?_;rintro e w2 ⟨qk,zf,⟨z4,rfl,z7⟩|⟨z4,v',rfl,hv',zs⟩⟩
 case inr=>
  have HX:=DY (And.intro hv' zs);have HS:=DY (show q=none by rw[HQ.out,if_pos z4]);obtain⟨t,x,rfl⟩:=hv'.form;clear KW hv' zs z4 zf;go_wp2;go_ret2
  have z8:=Qd w2 (.cells #[.slice none 0 0, .slice none 0 0, .int .i64 0, .int .i64 0, .slice none 0 0] 140);exact Zd.err (by rw[HS.out];rfl) ((HX.out.1.ext z8).up (by decide)) (Qb HX.out.2 z8)
 obtain⟨E0,E1,hE⟩:=QI z7.e;obtain⟨B0,B1,hB⟩:=QN z7.b;obtain⟨F0,F1,hF⟩:=QN z7.f;rw[hE,hB,hF];obtain⟨w3,zn,zh,zx⟩:=DS w2 (.cells #[.slice E0 qk.st.ents.length E1, .slice B0 qk.nb.length B1, .int .i64 qk.st.deep, .int .i64 qk.st.looked, .slice F0 qk.fl.length F1] 140);have k0:=Qa zx 0 rfl;have zJ:=DY (z7.bel.trans (zh.mono z7.bel.size));have zB:w3.ownsRow w.heap.size 146 3 (.slice E0 qk.st.ents.length E1) qk.st.ents.length (ev qk.st.ents):=by have:=Qk z7.e zh;rw[hE] at this;exact this
 have HM:=DY (show Jz w3 w3.heap.size E0 qk.st.ents from Jz.of_own rfl zB);have ze:=DY (show q=if(qk.st.ents.length:Int)=ZS n/\Xv 0 qk.st.ents=true then UM bs (qk.st.ents.map fun e=>Y9 e.val) over n fuel else none by rw[HQ.out,if_neg (by rw[z4];decide),zf]);rw[<-zf] at HV;clear KW zh hE hB hF zB z7 z4 zf HQ;generalize qk.st.ents=es at*;go_upto_region 2 with fail
 rw[show w2.alloc (.cells #[.slice E0 es.length E1, .slice B0 qk.nb.length B1, .int .i64 qk.st.deep, .int .i64 qk.st.looked, .slice F0 qk.fl.length F1] 140)=w3 from zn.symm]
 clear zn;obtain⟨bn,zc⟩:=DR (ZS n);have zL:=DY (show bn<=69 by rw[zc];exact bitmapsN_le HN.out.1);rw[<-zc] at ze;have KQ:∀m:Nat,Calls prog 70 #[.int .i64 n] (w3.drewN m) fun e w'=>e= .returned (.int .i64 bn)/\w'=w3.drewN m:=fun m=>by
  rw[zc];exact(KB.out (w3.drewN m)).mono fun e w' h=>⟨h.1,h.2.symm⟩
 clear zc KB;go_upto_region 4 with fail
 by_cases hlen:(es.length:Int)=bn
 case neg=>
  have d1:((es.length:Int) !=bn)=true:=by rw[bne_iff_ne];exact hlen
  have HS:=DY (show q=none by rw[ze.out,if_neg (fun h=>hlen h.1)]);clear hlen;go_quiet ((go_at_call 70;exact Calls.quiet_of_same (KQ _)))
  have KA:=zo.out (w3.drewN nq);go_wp2_with fail
  refine KA.mono ?_;rintro e w4 ⟨v,rfl,hv,zF⟩;have HX:=DY (And.intro hv zF);obtain⟨t,x,rfl⟩:=hv.form;clear KA hv zF;go_wp2;go_ret2
  exact Zd.err (by rw[HS.out];rfl) (HX.out.1.up (by decide)) (Qb (Qs zJ.out nq) HX.out.2)
 have d1:((es.length:Int) !=bn)=false:=by rw[hlen];simp
 have zt:=DY (show q=if Xv 0 es=true then UM bs (es.map fun e=>Y9 e.val) over n fuel else none by
  rw[ze.out];by_cases h:Xv 0 es=true
  ·rw[if_pos ⟨hlen,h⟩,if_pos h]
  ·rw[if_neg (fun h2=>h h2.2),if_neg h])
 have zE:=DY (show es.length<=69 by have:=zL.out;omega);clear hlen;go_quiet ((go_at_call 70;exact Calls.quiet_of_same (KQ _)))
 have zO:=DY (show Jz (w3.drewN nq) (w3.drewN nq).heap.size E0 es from HM.out);have z9:=DY (Qs zJ nq);have k4:(w3.drewN nq).cell? ⟨w2.heap.size,0,none⟩=some (.slice E0 es.length E1):=k0;clear d1 KQ ze k0 zx;generalize w3.drewN nq=w4 at*;go_wp2_with fail
 go_loopw [14,41] (fun v i wr=>∃(k:Nat) (ps:List (S3×Int×Int)),k<=es.length/\i= .int .i64 k/\Hid (ps.length=k/\Below w4.heap.size w4 wr/\wr.ownsRow w4.heap.size 152 5 v k (pv ps)/\(ps.map UJ=(es.take k).map fun e=>Y9 e.val)/\Xv 0 es=Xv k (es.drop k))) (fun v i _=>es.length-(intOf i).toNat)
 case atStart=>exact⟨0,[],by omega,rfl,DY ⟨rfl,D6 _ _,Nb _ _ _ _,rfl,rfl⟩⟩
 case round=>
  obtain⟨k,ps,hk,rfl,HH⟩:=hrel;by_cases hlt:k<es.length
  ·obtain⟨b,o,rfl,hb',hc⟩:=(zO.out.below HH.out.2.1) (by omega);obtain⟨x0,x1,x2,hx⟩:∃x0 x1 x2,es[k]=⟨x0,x1,x2⟩:=⟨_,_,_,rfl⟩;obtain⟨e0,e1,e2⟩:=hc k _ (D1 hlt);rw[hx] at e0 e1 e2;dsimp only at e0 e1 e2;have zm:=HH.out.2.2.2.2;rw[DE es k k hlt,List.getD_eq_getElem?_getD,D1 hlt,N8,hx] at zm;have zI:=DY zm;have zC:x1.length<=reachBytes:=by
    have:=HV.out _ (List.getElem_mem hlt);rw[hx] at this;have this:x1.length<=24:=this;simp only[reachBytes];omega
   obtain⟨wa,zH,z8,zk⟩:=DS wr (.cells #[.int .i64 x0, .string ⟨x1.toArray⟩, .int .i64 x2] 146);obtain⟨z0,z1⟩:=DU zk;have za:=DY z8;have zK:=DY zk;have HO:=DY (Qk HH.out.2.2.1 z8);have KR:=VF x1 wa zC;obtain⟨s0,s1,s2,hs⟩:=Eb (v:=x1);have zS:=DY (show Y9 x1=if rdE Q5 x1=0 then some (s0,s1,s2) else none by unfold Y9;rw[hs];rfl);rw[hs] at KR;replace KR:Calls prog 71 #[.string ⟨x1.toArray⟩] wa fun e w'=>e= .returned (.tuple #[.agg #[.int .i64 s0, .int .i64 s1, .int .i64 s2], .int .i64 (rdE Q5 x1)])/\Below wa.heap.size wa w':=KR
   have zQ:=DY (show(es.take (k+1)).map (fun e=>Y9 e.val)=(es.take k).map (fun e=>Y9 e.val)++[Y9 x1] by rw[Nl hlt,Ns,hx];rfl);have hkl:k<=69:=by have:=zE.out;omega
   clear hx hc hb' z8 zk hs zm zC;generalize rdE Q5 x1=er at*;generalize Y9 x1=so at*;go_upto_region 10 with fail
   rw[<-zH];clear zH e0 e1 e2;by_cases hkey:x0=(k:Int)
   case neg=>
    have d1:(x0 !=(k:Int))=true:=by rw[bne_iff_ne];exact hkey
    have HS:=Lib.hid (show q=none by rw[zt.out,zI.out,decide_eq_false hkey];rfl);have KA:=zo.out wa;clear hkey KR;go_wp2_with fail
    refine KA.mono ?_;rintro e w5 ⟨v,rfl,hv,z3⟩;have HX:=Lib.hid (DZ hv z3);obtain⟨t,x,rfl⟩:=hv.form;clear KA hv z3 z0 z1;go_wp2;go_ret2
    exact Zd.err (by rw[HS.out];rfl) (HX.out.1.up (by decide)) (Qb (Qb (Qb z9.out HH.out.2.1) za.out) HX.out.2)
   have d1:(x0 !=(k:Int))=false:=by rw[hkey];simp
   have zl:=DY (show Xv 0 es=Xv ((k:Int)+1) (es.drop (k+1)) by rw[zI.out,decide_eq_true hkey];rfl);clear hkey;go_wp2_with fail
   refine KR.mono ?_;rintro e w5 ⟨rfl,z3⟩;obtain⟨wb,zz,zd,zr⟩:=DS w5 (.cells #[.int .i64 s0, .int .i64 s1, .int .i64 s2] 148);obtain⟨y0,y1,y2⟩:=DV zr;have z2:=Qa (Qe (Qe zK z3) zd) 2 rfl;have zj:=DY (Qb z3 zd);have zb:=(Qk (Qk HO z3) zd).alloc (.cells #[.int .i64 s0, .int .i64 s1, .int .i64 s2, .int .i64 x2, .int .i64 er] 152);have zA:w4.heap.size<=(wb.alloc (.cells #[.int .i64 s0, .int .i64 s1, .int .i64 s2, .int .i64 x2, .int .i64 er] 152)).heap.size:=D3 HH.out.2.1.size (D3 za.out.size (D3 zj.out.size (Qd wb _).size));clear KR z3 zd zr z0 z1 d1;go_upto_region 13 with fail
   rw[<-zz];clear zz;go_wp2_with (at_builtin;refine Qq _ rfl (.tmp 59) (.tmp 65) _ rfl w4.heap.size 5 152 js _ 40 underlying144 zP zR zT zM rfl (by decide) _ k (pv ps) rfl zb _ _ 1 1 [.int .i64 s0, .int .i64 s1, .int .i64 s2, .int .i64 x2, .int .i64 er] rfl rfl (Qh.new wb [.int .i64 s0, .int .i64 s1, .int .i64 s2, .int .i64 x2, .int .i64 er] 152 (0,0)) (by simp[Value.oneCell']) (by simp only[maxLen];omega) (by omega) zA ?_;intro A7 c7 w7 z6 zW zq _)
   have zV:=DY z6;have zU:=DY zq;clear z6 zW zq zb zA y0 y1 y2 z2;go_roundw
   case rel=>exact⟨k+1,ps++[((s0,s1,s2),x2,er)],by omega,by go_num,DY ⟨by rw[D7,HH.out.1];rfl,((HH.out.2.1.trans (za.out.mono HH.out.2.1.size)).trans (zj.out.mono (D3 HH.out.2.1.size za.out.size))).trans (((Qd wb _).mono (D3 HH.out.2.1.size (Nat.le_trans za.out.size zj.out.size))).trans zU),by rw[Ei];exact zV.out,by rw[zQ.out,Ns,HH.out.2.2.2.1,zS.out];rfl,by rw[zl.out];rfl⟩⟩
   case measure=>simp[intOf];omega
  ·obtain rfl:k=es.length:=by omega
   obtain⟨A9,c9,zy⟩:=QI HH.out.2.2.1;have zg:=HH.out.2.2.1;rw[zy] at zg;have zp:=HH.out.1;have hM:GW wr wr.heap.size A9 ps:=GW.of_own (by omega) zg;have zD:=D3 HI.out.2 (D3 z9.out.size HH.out.2.1.size);have K:=OR ((HI.out.1.below (z9.out.mono HI.out.2)).below (HH.out.2.1.mono (D3 HI.out.2 z9.out.size))) zD A9 c9 ps over n fuel HN.out.2.2 (by have:=zE.out;omega) HN.out.1 HN.out.2.1 hM;have zu:=DY (show q=UM bs (ps.map UJ) over n fuel by
    rw[zt.out,HH.out.2.2.2.2,LD,if_pos (show Xv (es.length:Int) []=true from rfl),HH.out.2.2.2.1,Nw])
   rw[zp] at K;subst zy;clear zg zp hM zD;generalize UM bs (ps.map UJ) over n fuel=q2 at*;go_wp2_with fail
   refine K.mono ?_;rintro e w5 ⟨h5,z3⟩;have zv:=DY (Qb (Qb z9 HH.out.2.1) z3);have zN:=DY (D3 z9.out.size HH.out.2.1.size);rcases h5 with⟨L,A5,n5,c5,hL,rfl,zG,DX,zw⟩|⟨hL,v,rfl,hv⟩
   ·have HX:=Lib.hid (DZ hL (DZ zG (DZ DX zw)));clear K hL zG DX zw z3;go_wp2;go_ret2
    exact Zd.gives (by rw[zu.out];exact HX.out.1) HX.out.2.1 HX.out.2.2.1 (Q7 HX.out.2.2.2 zN) zv
   ·have HX:=Lib.hid (DZ hL hv);obtain⟨t,x,rfl⟩:=hv.form;clear K hL hv z3;go_wp2;go_ret2
    exact Zd.err (by rw[zu.out];exact HX.out.1) HX.out.2 zv
theorem Tryz.infoDmg:(prog.info? 79).map (fun i=>(i.zero,i.size,i.bytes))=some (some (.agg #[.int .i64 0, .int .i64 0, .int .i64 0]),3,24):=by kernel_rfl
theorem own_max{w:World}{base n s:Nat}{e:TypeId}{v:Value}{xs:List Value}(h:w.ownsRow base e s v n xs):n<=maxLen:=by
 rcases h.2 with⟨_,hz⟩|⟨g,cap,cur,_,_,_,h1,h2,_⟩
 ·rw[hz];exact Lb _
 ·omega
theorem R4(kind:Int)(v:Value)(w:World)(d:Nat)(hd:d<=1000)(hv:Qy d w w.heap.size v)(hT:XC w):
  Calls prog 200 #[.int .i64 kind,v] w fun e w'=>∃a c:Int,e= .returned (.agg #[.int .i64 kind, .int .i64 a, .int .i64 c])/\Below w.heap.size w w':=by
 obtain⟨w1,za,z4,z9⟩:=DS w (.cells #[.int .i64 0, .int .i64 0, .int .i64 0] 79);have KB:=fblocks_any v w1 d hd (hv.ext z4);have KC:=DY (fun(W:World) (hW:Below w1.heap.size w1 W)=>code_any v W d ((hv.ext z4).ext hW) ((hT.below z4).below hW));have ze:=DY z4;have zb:=DY z9;obtain⟨vt,vx,rfl⟩:=hv.form;clear z4 z9 hv hT;go_enter func200,ntmps200
 go_upto_region 1 with fail
 rw[<-za];clear za;go_wp2_with fail
 refine KB.mono ?_;rintro e w2 ⟨l,A,c,rfl,z0,z5⟩;rw[QK] at z0 ⊢;have z6:=KC.out w2 z5;have zc:=DY (Qb ze z5);have zd:=DY (Qe zb z5);have hr:=Qh.of_own z0;clear KB KC z5 zb;have z3:=DY (show∀(w3:World) (a n:Int),Below w2.heap.size w2 w3->Below w.heap.size w (setAll w.heap.size w3 0 [.int .i64 kind, .int .i64 a, .int .i64 n]) from fun w3 a n hb=>(Qb zc hb).grown (Ya w.heap.size _ w3 0) (D3 zc.out.size hb.size) (fun k hk=>by cases hk;exact Na _));have z7:=own_max z0;simp only[maxLen] at z7;by_cases hl:0<l.length
 ·obtain⟨m,hm⟩:∃m,l.length=m+1:=⟨l.length-1,by omega⟩
  obtain⟨ad,rfl,zf,hc⟩:=hr.num (k:=m) (by omega);have hc':∃y:Int,w2.cell? (ad.add m)=some (.int .i64 y):=⟨_,hc⟩;obtain⟨y,hc'⟩:=hc';have p6:wrap64 (m:Int)=(m:Int):=by unfold wrap64;omega
  have p1:wrap64 (((m+1:Nat):Int)-1)=(m:Int):=by unfold wrap64;omega
  have p2:(0:Int)<((m+1:Nat):Int):=by omega
  have d1:decide ((0:Int)<((m+1:Nat):Int))=true:=decide_eq_true p2;have p3:(0:Int)<=(m:Int):=by omega
  have p4:(m:Int)<((m+1:Nat):Int):=by omega
  have p5:wrap64 ((m:Int)+1-1)=(m:Int):=by unfold wrap64;omega
  rw[hm];clear z0 hr hc zf hl z7 hm;go_wp2_with fail
  refine z6.mono ?_;rintro e w3 ⟨⟨cn,rfl⟩,z2⟩;have z8:=DY z2;have z1:=Qe (Qe zd (D6 _ _)) z2;obtain⟨t0,t1,t2⟩:=DV z1;have g0:=Qf z1 0;have g1:=Qf z1 1;have g2:=Qf z1 2;clear z6 z2 z1;go_wp2;refine bodyPost_ret (v:= .agg #[.int .i64 kind, .int .i64 y, .int .i64 cn]) (by rw[YE rfl];go_simp) rfl ?_;exact⟨y,cn,rfl,z3.out w3 y cn z8⟩
 ·have h0:l.length=0:=by omega
  rw[h0];clear z0 hr hl z7 h0;go_wp2_with fail
  refine z6.mono ?_;rintro e w3 ⟨⟨cn,rfl⟩,z2⟩;have z8:=DY z2;have z1:=Qe (Qe zd (D6 _ _)) z2;obtain⟨t0,t1,t2⟩:=DV z1;have g0:=Qf z1 0;have g1:=Qf z1 1;have g2:=Qf z1 2;clear z6 z2 z1;go_wp2;refine bodyPost_ret (v:= .agg #[.int .i64 kind, .int .i64 (-1), .int .i64 cn]) (by rw[YE rfl];go_simp) rfl ?_;exact⟨-1,cn,rfl,z3.out w3 (-1) cn z8⟩
theorem ZY{w w9 W:World}{r:Option Nat}{D:Nat}(h:w.grownBy w9 r)(k:w9.grownBy W (some D))(hD:w.heap.size<=D):w.grownBy W r:=
 ⟨k.os.trans h.os,k.tape.trans h.tape,k.output.trans h.output,D3 h.size k.size,fun j hj hr=>(k.block j (Nh hj h.size) (fun e=>by have:=Nd e;omega)).trans (h.block j hj hr)⟩
def VR(w:World)(g m:Nat)(data fuel sum:Int):Prop:=w.heap[g]?=some (.cells #[.pointer (some ⟨m,0,none⟩), .int .i64 data, .int .i64 fuel, .int .i64 sum] 245)
def GivesDv(g m:Nat)(data fuel sum:Int)(q:Option Q4)(w:World)(e:Ending)(w':World):Prop:=
 w.grownBy w' (some g)/\((∃d A c,q=some d/\e= .returned (.tuple #[devV d A c, .nilIface])/\w'.ownsRow w.heap.size 52 3 (.slice A d.maps.length c) d.maps.length (mv d.maps)/\VR w' g m data fuel (sum+d.maps.length)/\d.maps.length<=c)∨
  (q=none/\∃v,e= .returned (.tuple #[.agg #[.int .i64 0, .int .i64 0, .int .i64 0, .int .i64 0, .slice none 0 0],v])/\Qy 42 w' w'.heap.size v))
def Js(bs:List UInt8)(data fuel sum:Int)(d t:Qv):Option Q4:=(Xz bs data fuel d t).bind fun x=>if sum+x.maps.length<=16384 then some x else none
theorem det_nums{v:List UInt8}:∃x0 x1 x2 x3,rdN QU v=[x0,x1,x2,x3]:=by
 have h:=Vv QU v;generalize rdN QU v=l at*
 match l,h with
 |[x0,x1,x2,x3],_=>exact⟨x0,x1,x2,x3,rfl⟩
theorem ldevice_any{w:World}{base m:Nat}{bs:List UInt8}(hi:ZH w base m bs)(hbs:base<=w.heap.size)(g:Nat)(data fuel sum:Int)(k1:Int)(v1:List UInt8)(a1 k2:Int)(v2:List UInt8)(a2:Int)(hfu:fuel<=1000000)(hr:VR w g m data fuel sum)(hs0:0<=sum)(hs:sum<=16384)(hv1:v1.length<=reachBytes)(hv2:v2.length<=reachBytes):
  Calls prog 121 #[.pointer (some ⟨g,0,none⟩), .agg #[.int .i64 k1, .string ⟨v1.toArray⟩, .int .i64 a1], .agg #[.int .i64 k2, .string ⟨v2.toArray⟩, .int .i64 a2]] w (GivesDv g m data fuel sum (Js bs data fuel sum ⟨k1,v1,a1⟩ ⟨k2,v2,a2⟩) w):=by
 obtain⟨q,hq⟩:=DR (Js bs data fuel sum ⟨k1,v1,a1⟩ ⟨k2,v2,a2⟩);rw[<-hq];obtain⟨n0,n1,n2,n3,hn⟩:=det_nums (v:=v1);have HQ:=DY (show q=if k1<=16777215/\rdE QU v1=0/\rdE [QB] v2=0 then(ZM bs data fuel (rd1 QB v2)).bind fun l=>if(l.length:Int)=n0 then(if sum+(l.length:Int)<=16384 then some (⟨k1,n1,n2,n3,l⟩:Q4) else none) else none else none by
  rw[hq];unfold Js Xz;rw[hn];dsimp only
  split
  ·cases ZM bs data fuel (rd1 QB v2) with
   |none=>rfl
   |some l=>
    simp only[Option.bind_some]
    split
    ·rename_i h
     simp only[Option.bind_some];have h':(l.length:Int)=n0:=h;rw[if_pos h']
     rfl
    ·rename_i h
     have h':¬(l.length:Int)=n0:=h;rw[if_neg h']
     rfl
  ·rfl)
 have zZ:=DY (show rdE QU v1=0->n0<=16384 from fun h=>by have:=(det_in h).1.2;rw[hn] at this;exact this);obtain⟨w1,z9⟩:∃w1,w1=((w.alloc (.cells #[.int .i64 k1, .string ⟨v1.toArray⟩, .int .i64 a1] 146)).alloc (.cells #[.int .i64 k2, .string ⟨v2.toArray⟩, .int .i64 a2] 146)).alloc (.cells #[.int .i64 0, .int .i64 0, .int .i64 0, .int .i64 0, .slice none 0 0] 49):=⟨_,rfl⟩;have zI:(w.alloc (.cells #[.int .i64 k1, .string ⟨v1.toArray⟩, .int .i64 a1] 146)).heap.size=w.heap.size+1:=by simp
 have zb:((w.alloc (.cells #[.int .i64 k1, .string ⟨v1.toArray⟩, .int .i64 a1] 146)).alloc (.cells #[.int .i64 k2, .string ⟨v2.toArray⟩, .int .i64 a2] 146)).heap.size=w.heap.size+2:=by simp
 have zu:Below w.heap.size w w1:=by rw[z9];exact Qb (QG w _ _) (Qd _ _)
 have zp:w1.heap[w.heap.size]?=some (.cells #[.int .i64 k1, .string ⟨v1.toArray⟩, .int .i64 a1] 146):=by rw[z9];exact Qj (Qj (heap_alloc_new w _) _) _
 have zO:w1.heap[w.heap.size+1]?=some (.cells #[.int .i64 k2, .string ⟨v2.toArray⟩, .int .i64 a2] 146):=by rw[z9,<-zI];exact Qj (heap_alloc_new _ _) _
 have zW:w1.heap[w.heap.size+2]?=some (.cells #[.int .i64 0, .int .i64 0, .int .i64 0, .int .i64 0, .slice none 0 0] 49):=by rw[z9,<-zb];exact heap_alloc_new _ _
 have KD:=JB v1 w1 hv1;rw[hn] at KD;replace KD:Calls prog 89 #[.string ⟨v1.toArray⟩] w1 fun e w'=>e= .returned (.tuple #[.agg #[.int .i64 n0, .int .i64 n1, .int .i64 n2, .int .i64 n3], .int .i64 (rdE QU v1)])/\Below w1.heap.size w1 w':=KD
 have KR:=DY (fun W=>YD v2 W hv2);have zJ:=DY zu;have zP:=DY zp;have zL:=DY zO;have zv:=DY zW;have zE:=DY (Qe hr zu);have zz:=DY (show g<w.heap.size from(D0.1 hr).1);have HI:=DY (DZ hi (DZ hbs hfu));have zs:=DY (fun(n:Int) (hn:n≠0) W=>Rl a1 n hn W);have zT:=DY (fun(n:Int) (hn:n≠0) W=>Rl a2 n hn W);have q3:=DY (DZ hs0 hs);obtain⟨c0,c1,c2⟩:=DV zp;clear hq hn zI zb zu zp zO zW hi hbs hr hs0 hs hfu;generalize rdE QU v1=ed at*;generalize rdE [QB] v2=er at*;generalize rd1 QB v2=root at*;go_enter func121,ntmps121
 go_upto_region 1 with fail
 rw[show((w.alloc (.cells #[.int .i64 k1, .string ⟨v1.toArray⟩, .int .i64 a1] 146)).alloc (.cells #[.int .i64 k2, .string ⟨v2.toArray⟩, .int .i64 a2] 146)).alloc (.cells #[.int .i64 0, .int .i64 0, .int .i64 0, .int .i64 0, .slice none 0 0] 49)=w1 from z9.symm]
 clear z9;by_cases hk:k1<=16777215
 case neg=>
  have d1:decide (16777215<k1)=true:=decide_eq_true (by omega);have HS:=DY (show q=none by rw[HQ.out,if_neg (fun h=>hk h.1)]);have K:=zs.out 9 (by decide) w1;clear hk KD HQ;go_wp2_with fail
  refine K.mono ?_;rintro e w9 ⟨v,rfl,hv,z1⟩;have HX:=DY (And.intro hv z1);have z0:=Qe zv z1;have z4:=DY z0;obtain⟨t0,t1,t2,t3,t4⟩:=DX z0;have g0:=Qf z0 0;have g1:=Qf z0 1;have g2:=Qf z0 2;have g3:=Qf z0 3;have g4:=Qf z0 4;obtain⟨vt,vx,rfl⟩:=hv.form;clear K hv z1 z0 c0 c1 c2;go_wp2;refine bodyPost_ret (v:= .tuple #[.agg #[.int .i64 0, .int .i64 0, .int .i64 0, .int .i64 0, .slice none 0 0], .iface vt vx]) (by rw[results_cell_tmp rfl];go_simp) rfl ?_;have hg:=Zz w9 (w.heap.size+2) (.int .i64 0) (.int .i64 0) (.int .i64 0) (.int .i64 0) (.slice none 0 0);exact⟨ZY (QC (Qz zJ.out _) (Qz HX.out.2 _)) hg (by omega), .inr ⟨HS.out,_,rfl,((HX.out.1.up (by decide)).grown z4.out (by decide) hg).more hg.size⟩⟩
 have d1:decide (16777215<k1)=false:=decide_eq_false (by omega);have q0:=DY hk;clear hk;go_wp2_with fail
 refine KD.mono ?_;rintro e w2 ⟨rfl,zG⟩;obtain⟨w3,zh⟩:=DR (w2.alloc (.cells #[.int .i64 n0, .int .i64 n1, .int .i64 n2, .int .i64 n3] 196));have zd:Below w1.heap.size w1 w3:=by rw[zh];exact Qb zG (Qd w2 _)
 have zQ:w3.heap[w2.heap.size]?=some (.cells #[.int .i64 n0, .int .i64 n1, .int .i64 n2, .int .i64 n3] 196):=by rw[zh];exact heap_alloc_new w2 _
 have zX:=DY (Qb zJ zd);have zA:=DY (Qe zP zd);have zn:=DY (Qe zL zd);have zB:=DY (Qe zv zd);have zV:=DY (Qe zE zd);have zR:=DY zQ;clear KD zG zd zQ c0 c1 c2 zP zL zv zE d1;have c2:=Qa zA 2 rfl;have b1:=Qa zn 1 rfl;have b2:=Qa zn 2 rfl;go_upto_region 4 with fail
 rw[<-zh];clear zh;by_cases he:ed=0
 case neg=>
  have d1:(ed !=0)=true:=by rw[bne_iff_ne];exact he
  have HS:=DY (show q=none by rw[HQ.out,if_neg (fun h=>he h.2.1)]);have K:=zs.out ed he w3;clear he HQ;go_wp2_with fail
  refine K.mono ?_;rintro e w9 ⟨v,rfl,hv,z1⟩;have HX:=DY (And.intro hv z1);have z0:=Qe zB z1;have z4:=DY z0;obtain⟨t0,t1,t2,t3,t4⟩:=DX z0;have g0:=Qf z0 0;have g1:=Qf z0 1;have g2:=Qf z0 2;have g3:=Qf z0 3;have g4:=Qf z0 4;obtain⟨vt,vx,rfl⟩:=hv.form;clear K hv z1 z0 c2 b1 b2;go_wp2;refine bodyPost_ret (v:= .tuple #[.agg #[.int .i64 0, .int .i64 0, .int .i64 0, .int .i64 0, .slice none 0 0], .iface vt vx]) (by rw[results_cell_tmp rfl];go_simp) rfl ?_;have hg:=Zz w9 (w.heap.size+2) (.int .i64 0) (.int .i64 0) (.int .i64 0) (.int .i64 0) (.slice none 0 0);exact⟨ZY (QC (Qz zX.out _) (Qz HX.out.2 _)) hg (by omega), .inr ⟨HS.out,_,rfl,((HX.out.1.up (by decide)).grown z4.out (by decide) hg).more hg.size⟩⟩
 subst he;have zK:=KR.out w3;go_wp2_with fail
 refine zK.mono ?_;rintro e w4 ⟨rfl,z7⟩;have z8:=DY (Qb zX z7);have zx:=DY (Qe zA z7);have zq:=DY (Qe zn z7);have zm:=DY (Qe zB z7);have zg:=DY (Qe zV z7);have zF:=DY (Qe zR z7);clear zK KR z7 zA zn zB zV zR c2 b1 b2;have c2:=Qa zx 2 rfl;have b2:=Qa zq 2 rfl;by_cases he:er=0
 case neg=>
  have d1:(er !=0)=true:=by rw[bne_iff_ne];exact he
  have HS:=DY (show q=none by rw[HQ.out,if_neg (fun h=>he h.2.2)]);have K:=zT.out er he w4;clear he HQ;go_wp2_with fail
  refine K.mono ?_;rintro e w9 ⟨v,rfl,hv,z1⟩;have HX:=DY (And.intro hv z1);have z0:=Qe zm z1;have z4:=DY z0;obtain⟨t0,t1,t2,t3,t4⟩:=DX z0;have g0:=Qf z0 0;have g1:=Qf z0 1;have g2:=Qf z0 2;have g3:=Qf z0 3;have g4:=Qf z0 4;obtain⟨vt,vx,rfl⟩:=hv.form;clear K hv z1 z0 c2 b2;go_wp2;refine bodyPost_ret (v:= .tuple #[.agg #[.int .i64 0, .int .i64 0, .int .i64 0, .int .i64 0, .slice none 0 0], .iface vt vx]) (by rw[results_cell_tmp rfl];go_simp) rfl ?_;have hg:=Zz w9 (w.heap.size+2) (.int .i64 0) (.int .i64 0) (.int .i64 0) (.int .i64 0) (.slice none 0 0);exact⟨ZY (QC (Qz z8.out _) (Qz HX.out.2 _)) hg (by omega), .inr ⟨HS.out,_,rfl,((HX.out.1.up (by decide)).grown z4.out (by decide) hg).more hg.size⟩⟩
 have zl:=DY (show q=(ZM bs data fuel root).bind fun l=>if(l.length:Int)=n0 then(if sum+(l.length:Int)<=16384 then some (⟨k1,n1,n2,n3,l⟩:Q4) else none) else none by rw[HQ.out,if_pos ⟨q0.out,by trivial,he⟩]);subst he;have KM:=lmaps_any (HI.out.1.below (z8.out.mono HI.out.2.1)) (D3 HI.out.2.1 z8.out.size) g data fuel root HI.out.2.2 (Nh zz z8.out.size) (Qa zg 0 rfl) (Qa zg 1 rfl) (Qa zg 2 rfl);clear HQ;generalize ZM bs data fuel root=qm at*;go_wp2_with fail
 refine KM.mono ?_;rintro e w5 ⟨⟨L,A5,l5,c5,hL,rfl,zU,DX,zH⟩|⟨hL,v,rfl,hv⟩,z3⟩
 case inr=>
  have HS:=DY (show q=none by
   rw[zl.out];cases qm with
   |none=>rfl
   |some x=>cases hL)
  have zc:=DY (Qb z8 z3);have zS:=Qe zm z3;have ze:=DY zS;have b2:=Qg z3 b2;have K:=Xk 40 a2 v w5 hv;obtain⟨vt,vx,rfl⟩:=hv.form;clear KM hL hv z3 zS c2 zl;go_wp2_with fail
  refine K.mono ?_;rintro e w9 ⟨v,rfl,hv,z1⟩;have HX:=DY (And.intro hv z1);have z0:=Qe ze z1;have z4:=DY z0;obtain⟨t0,t1,t2,t3,t4⟩:=DX z0;have g0:=Qf z0 0;have g1:=Qf z0 1;have g2:=Qf z0 2;have g3:=Qf z0 3;have g4:=Qf z0 4;obtain⟨vt,vx,rfl⟩:=hv.form;clear K hv z1 z0 b2;go_wp2;refine bodyPost_ret (v:= .tuple #[.agg #[.int .i64 0, .int .i64 0, .int .i64 0, .int .i64 0, .slice none 0 0], .iface vt vx]) (by rw[results_cell_tmp rfl];go_simp) rfl ?_;have hg:=Zz w9 (w.heap.size+2) (.int .i64 0) (.int .i64 0) (.int .i64 0) (.int .i64 0) (.slice none 0 0);exact⟨ZY (QC (Qz zc.out _) (Qz HX.out.2 _)) hg (by omega), .inr ⟨HS.out,_,rfl,((HX.out.1.up (by decide)).grown z4.out (by decide) hg).more hg.size⟩⟩
 obtain⟨ms,zM,rfl⟩:∃ms,qm=some ms/\L=mv ms:=by
  cases qm with
  |none=>cases hL
  |some x=>cases hL;exact⟨x,rfl,rfl⟩
 rw[mv_len] at zU;obtain rfl:l5=ms.length:=by omega
 have zi:=DY (show q=if(ms.length:Int)=n0 then(if sum+(ms.length:Int)<=16384 then some (⟨k1,n1,n2,n3,ms⟩:Q4) else none) else none by rw[zl.out,zM,Option.bind_some]);have zc:=DY (Qb z8 z3);have zk:=DY (Qe zx z3);have zy:=DY (Qe zq z3);have ze:=DY (Qe zm z3);have zf:=DY (Qe zg z3);have za:=DY (Qe zF z3);have zC:=DY (QO zH z8.out.size);have q7:=DY DX;clear KM hL zU zH z3 zM DX zx zq zm zg zF c2 b2 zl;have c2:=Qa zk 2 rfl;have p0:=Qa za 0 rfl;by_cases hm:(ms.length:Int)=n0
 case neg=>
  have d1:((ms.length:Int) !=n0)=true:=by rw[bne_iff_ne];exact hm
  have HS:=DY (show q=none by rw[zi.out,if_neg hm]);have K:=zs.out 13 (by decide) w5;clear hm zi;go_wp2_with fail
  refine K.mono ?_;rintro e w9 ⟨v,rfl,hv,z1⟩;have HX:=DY (And.intro hv z1);have z0:=Qe ze z1;have z4:=DY z0;obtain⟨t0,t1,t2,t3,t4⟩:=DX z0;have g0:=Qf z0 0;have g1:=Qf z0 1;have g2:=Qf z0 2;have g3:=Qf z0 3;have g4:=Qf z0 4;obtain⟨vt,vx,rfl⟩:=hv.form;clear K hv z1 z0 c2 p0;go_wp2;refine bodyPost_ret (v:= .tuple #[.agg #[.int .i64 0, .int .i64 0, .int .i64 0, .int .i64 0, .slice none 0 0], .iface vt vx]) (by rw[results_cell_tmp rfl];go_simp) rfl ?_;have hg:=Zz w9 (w.heap.size+2) (.int .i64 0) (.int .i64 0) (.int .i64 0) (.int .i64 0) (.slice none 0 0);exact⟨ZY (QC (Qz zc.out _) (Qz HX.out.2 _)) hg (by omega), .inr ⟨HS.out,_,rfl,((HX.out.1.up (by decide)).grown z4.out (by decide) hg).more hg.size⟩⟩
 have d1:((ms.length:Int) !=n0)=false:=by rw[hm];simp
 have zj:=DY (show q=if sum+(ms.length:Int)<=16384 then some (⟨k1,n1,n2,n3,ms⟩:Q4) else none by rw[zi.out,if_pos hm]);have zY:=q3.out;have hml:(0:Int)<=(ms.length:Int):=by omega
 have z5:=DY (show(ms.length:Int)<=16384 by have:=zZ.out (by trivial);omega);clear hm;obtain⟨s2,zb⟩:=DR (sum+(ms.length:Int));have q2:wrap64 (sum+(ms.length:Int))=s2:=by have:=z5.out;rw[zb];unfold wrap64;omega
 have zw:=DY zb;have r3:=Qa zf 3 rfl;have q4:=Qf zf 3;have z6:=Qo w5 g 3 (.int .i64 s2);have zo:∀j,w.heap.size<=j->some j≠some g:=fun j hj e=>by have:=Nd e;have:=zz.out;omega
 have q5:=zc.out.size;have zD:=DY (QC (Qz zc (some g)) z6);have q1:=DY ((z6.block _ (D0.1 zk).1 (zo _ (Na _))).trans zk);have q6:=DY ((z6.block _ (D0.1 zy).1 (zo _ (by omega))).trans zy);have z2:=DY ((z6.block _ (D0.1 ze).1 (zo _ (by omega))).trans ze);have zr:=DY ((z6.block _ (D0.1 za.out).1 (Qi za.out (by decide) (Nb w5 0 245 1)|>fun _=>fun e=>by
  have h1:=zf.out;unfold VR at h1;have h2:=za.out;rw[Nd e] at h2;rw[h2] at h1;cases h1)).trans za)
 have zt:=DY (show VR (w5.setCell ⟨g,3,none⟩ (.int .i64 s2)) g m data fuel s2 from(heap_setCell_same w5 g 3 _ _ (.int .i64 s2) zf).trans (by simp));have zN:=DY (zC.out.kept z6 (.inr (Qi zf.out (by decide) zC.out).symm));clear zk zy ze za zC zf c2 z6 zo q5 zb zY zi zc z5;go_upto_region 15 with fail
 clear r3 q4 q2 d1 p0;generalize w5.setCell ⟨g,3,none⟩ (.int .i64 s2)=w6 at*;have r3:=Qa zt 3 rfl;have c0:=Qa q1 0 rfl;have b2:=Qa q6 2 rfl;have p1:=Qa zr 1 rfl;have p2:=Qa zr 2 rfl;have p3:=Qa zr 3 rfl;by_cases hb:s2<=16384
 case neg=>
  have d1:decide (16384<s2)=true:=decide_eq_true (by omega);have HS:=DY (show q=none by rw[zj.out,<-zw.out,if_neg hb]);have K:=zT.out 2 (by decide) w6;clear hb zj;go_wp2_with fail
  refine K.mono ?_;rintro e w9 ⟨v,rfl,hv,z1⟩;have HX:=DY (And.intro hv z1);have z0:=Qe z2 z1;have z4:=DY z0;obtain⟨t0,t1,t2,t3,t4⟩:=DX z0;have g0:=Qf z0 0;have g1:=Qf z0 1;have g2:=Qf z0 2;have g3:=Qf z0 3;have g4:=Qf z0 4;obtain⟨vt,vx,rfl⟩:=hv.form;clear K hv z1 z0 c0 b2 p1 p2 p3 r3;go_wp2;refine bodyPost_ret (v:= .tuple #[.agg #[.int .i64 0, .int .i64 0, .int .i64 0, .int .i64 0, .slice none 0 0], .iface vt vx]) (by rw[results_cell_tmp rfl];go_simp) rfl ?_;have hg:=Zz w9 (w.heap.size+2) (.int .i64 0) (.int .i64 0) (.int .i64 0) (.int .i64 0) (.slice none 0 0);exact⟨ZY (QC zD.out (Qz HX.out.2 _)) hg (by omega), .inr ⟨HS.out,_,rfl,((HX.out.1.up (by decide)).grown z4.out (by decide) hg).more hg.size⟩⟩
 have d1:decide (16384<s2)=false:=decide_eq_false (by omega);have HS:=DY (show q=some (⟨k1,n1,n2,n3,ms⟩:Q4) by rw[zj.out,<-zw.out,if_pos hb]);have t0:=Qa z2 0 rfl;have t1:=Qa z2 1 rfl;have t2:=Qa z2 2 rfl;have t3:=Qa z2 3 rfl;have t4:=Qa z2 4 rfl;have g0:=Qf z2 0;have g1:=Qf z2 1;have g2:=Qf z2 2;have g3:=Qf z2 3;have g4:=Qf z2 4;clear hb zj;go_wp2;refine bodyPost_ret (v:= .tuple #[.agg #[.int .i64 k1, .int .i64 n1, .int .i64 n2, .int .i64 n3, .slice A5 ms.length c5], .nilIface]) (by rw[results_cell_tmp rfl];go_simp) rfl ?_;have hg:=Zz w6 (w.heap.size+2) (.int .i64 k1) (.int .i64 n1) (.int .i64 n2) (.int .i64 n3) (.slice A5 ms.length c5);refine⟨ZY zD.out hg (by omega), .inl ⟨⟨k1,n1,n2,n3,ms⟩,A5,c5,HS.out,rfl,zN.out.kept hg (.inr (Qi z2.out (by decide) zN.out).symm),?_,q7.out⟩⟩;have h1:=(hg.block g (D0.1 zt).1 (fun e=>by have:=Nd e;have:=zz.out;omega)).trans zt;rw[zw.out] at h1;exact h1
theorem zerosC_le(cs:List Int):Q1 cs<=cs.length:=List.countP_le_length
theorem rep_okc(n:Nat)(hn:0<n)(hm:n<=14400):Okc 300000 ((List.replicate n (0:Int)).set 0 1)/\Q1 ((List.replicate n (0:Int)).set 0 1)<n+1/\((List.replicate n (0:Int)).set 0 1).length=n:=by
 have hl:((List.replicate n (0:Int)).set 0 1).length=n:=by simp
 have hz:=zerosC_le ((List.replicate n (0:Int)).set 0 1);rw[hl] at hz;refine⟨⟨fun x hx=>?_,?_⟩,by omega,hl⟩
 ·rcases List.mem_or_eq_of_mem_set hx with hx|rfl
  ·rw[(List.mem_replicate.1 hx).2];decide
  ·decide
 ·have hs:=E6 (List.replicate n (0:Int)) 0 (by simpa using hn);have h0:(List.replicate n (0:Int)).getD 0 0=0:=by
   rw[D9,LS]
   split<;>rfl
  rw[h0] at hs;have h1:(List.replicate n (0:Int)).sum=0:=by simp
  rw[h1] at hs;replace hs:((List.replicate n (0:Int)).set 0 1).sum=1:=by simpa using hs
  rw[hs];omega
theorem Cnt.row{w:World}{B g n:Nat}{A:Option Addr}{c:Nat}{l:List Int}(h:Cnt w B g A c l)(hn:l.length=n):w.ownsRow B 3 1 (.slice A n c) n (iv l):=by subst hn;exact h.2.1
theorem RU{w:World}{base m:Nat}{bs:List UInt8}(hi:ZH w base m bs)(hbs:base<=w.heap.size)(s:Nat->Int):
  Calls prog 29 #[.pointer (some ⟨m,0,none⟩), .agg (QQ s)] w (Zd 20 3 1 ((XJ bs s).map iv) w):=by
 obtain⟨q,hq⟩:=DR (XJ bs s);rw[<-hq];unfold XJ rootsOf at hq;have zc:QQ s=#[.int .i64 (s 0), .int .i64 (s 1), .int .i64 (s 2), .int .i64 (s 3), .int .i64 (s 4), .int .i64 (s 5), .int .i64 (s 6), .int .i64 (s 7), .int .i64 (s 8), .int .i64 (s 9), .int .i64 (s 10)]:=rfl;obtain⟨w1,zr,zk,z1⟩:=DS w (.cells (QQ s) 65);have KS:=RC s w1;have z9:=DY (fun h=>(VA (s:=s) h).2.2.2.2);rw[zc] at zr z1 KS ⊢;clear zc;have HI:=DY (DZ (hi.below (zk.mono hbs)) (D3 hbs zk.size));clear hi hbs;generalize okS s 11=ok at*;generalize s 0=x0 at*;generalize s 1=x1 at*;generalize s 2=x2 at*;generalize s 3=x3 at*;generalize s 4=x4 at*;generalize s 5=x5 at*;generalize s 6=x6 at*;generalize s 7=x7 at*;generalize s 8=x8 at*;generalize s 9=x9 at*;generalize s 10=x10 at*;have zv:=DY zk;have zM:=DY z1;have q0:=Qa z1 0 rfl;have q1:=Qa z1 1 rfl;have q2:=Qa z1 2 rfl;have q3:=Qa z1 3 rfl;have q4:=Qa z1 4 rfl;have q5:=Qa z1 5 rfl;have q6:=Qa z1 6 rfl;have q7:=Qa z1 7 rfl;have q8:=Qa z1 8 rfl;have q9:=Qa z1 9 rfl;have zm:=Qa z1 10 rfl;clear zk z1;go_enter func29,ntmps29
 go_upto_region 1 with fail
 rw[show w.alloc (.cells #[.int .i64 x0, .int .i64 x1, .int .i64 x2, .int .i64 x3, .int .i64 x4, .int .i64 x5, .int .i64 x6, .int .i64 x7, .int .i64 x8, .int .i64 x9, .int .i64 x10] 65)=w1 from zr.symm]
 clear zr;cases ok with
 |false=>
  have HQ:=DY (show q.map iv=none by rw[hq,if_neg (by decide)];rfl);clear hq z9;go_wp2_with fail
  refine KS.mono ?_;rintro e w2 ⟨rfl,z6⟩;have zj:=DY (Qb zv z6);clear KS z6 q0 q1 q2 q3 q4 q5 q6 q7 q8 q9 zm;go_wp2;go_ret2
  exact Zd.err HQ (Qy.num _ _ _ _) zj
 |true=>
  rw[if_pos rfl] at hq;have zD:=z9.out rfl;obtain⟨n,hn⟩:=NB (show 0<=x4 by omega);subst hn;rw[N3] at hq;have HQ:=DY hq;have HN:=DY (show 2<=n/\n<=14400 by omega);clear hq z9 zD;go_wp2_with fail
  refine KS.mono ?_;rintro e w2 ⟨rfl,z6⟩;have zj:=DY (Qb zv z6);have zu:=DY (Qe zM z6);have zh:=DY (And.intro (HI.out.1.below (z6.mono HI.out.2)) (D3 HI.out.2 z6.size));have KN:=cnew_ok n (by have:=HN.out;omega) w2;have q4:=Qa zu 4 rfl;clear KS z6 zM HI zv q0 q1 q2 q3 q5 q6 q7 q8 q9 zm;go_wp2_with fail
  refine KN.mono ?_;rintro e w3 ⟨g1,A,c,rfl,DV,zb⟩;have zF:=DY (Qb zj zb);have zn:=DY (Qe zu zb);have zz:=DY (And.intro (zh.out.1.below (zb.mono zh.out.2)) (D3 zh.out.2 zb.size));have KA:=DJ DV 0 (fun x hx=>by rw[(List.mem_replicate.1 hx).2];decide);have hE:OT (List.replicate n (0:Int)).length 0=0:=by unfold OT;rw[if_neg (by have:=HN.out;simp;omega)]
  have hL:Jd (List.replicate n (0:Int)) 0=(List.replicate n (0:Int)).set 0 1:=by
   unfold Jd;rw[if_pos hE];have h0:(List.replicate n (0:Int)).getD 0 0=0:=by
    rw[D9,LS]
    split<;>rfl
   rw[show(0:Int).toNat=0 from rfl,h0]
   rfl
  rw[hE,hL,Nn] at KA;generalize DK (List.replicate n (0:Int)) 0=y at*;have zt:=DY (show∀k,(Value.slice A n c).ownBlock=some k->w.heap.size<=k by
   intro k hk;have:=(DV.row (by simp)).lt k hk;have:=zj.out.size;omega)
  have zy:=DY (DV.row (n:=n) (by simp));clear KN DV zb hE hL q4 zu zh;go_wp2_with fail
  refine KA.mono ?_;rintro e w4 ⟨rfl,DW,zd⟩;have ze:=DY (And.intro (zz.out.1.grown zy zd) (Nat.le_trans zz.out.2 zd.size));have zN:=DY ((zd.block _ (D0.1 zn.out).1 (Qi zn.out (by decide) zy.out)).trans zn.out);have zQ:=DY (zF.out.grown zd zF.out.size (fun k hk=>zt.out k hk));clear KA zd zz zn zF zy;obtain⟨w5,zC,za,-⟩:=DS w4 (.cells #[.pointer (some ⟨m,0,none⟩), .pointer (some ⟨g1,0,none⟩)] 165);have zO:Rch w5 base w4.heap.size m g1 n A c bs ((List.replicate n (0:Int)).set 0 1):=⟨by simp,by rw[zC];exact heap_alloc_new w4 _,ze.out.1.below (za.mono ze.out.2),_,DW.below za⟩
  have z3:=DY (Qe zN za);have zT:=DY (Qb zQ za);have zK:=DY (Nat.le_trans ze.out.2 za.size);have q0:=Qa z3 0 rfl;have q1:=Qa z3 1 rfl;have q2:=Qa z3 2 rfl;have q3:=Qa z3 3 rfl;have q4:=Qa z3 4 rfl;have q5:=Qa z3 5 rfl;have q6:=Qa z3 6 rfl;have q7:=Qa z3 7 rfl;have q8:=Qa z3 8 rfl;have q9:=Qa z3 9 rfl;have zm:=Qa z3 10 rfl;clear DW za zN ze zQ;obtain⟨w6,zs,zo,-⟩:=DS w5 (.cells #[.int .i64 x5, .int .i64 1, .int .i64 x6, .int .i64 3, .int .i64 x7, .int .i64 4, .int .i64 x8, .int .i64 5, .int .i64 x9, .int .i64 (-1), .int .i64 x10, .int .i64 5] 166);have zw:=DY (zO.below zo zK);have zx:=DY (show w6.heap[w5.heap.size]?=some (.cells #[.int .i64 x5, .int .i64 1, .int .i64 x6, .int .i64 3, .int .i64 x7, .int .i64 4, .int .i64 x8, .int .i64 5, .int .i64 x9, .int .i64 (-1), .int .i64 x10, .int .i64 5] 166) by rw[zs];exact heap_alloc_new w5 _);have zq:=DY (Qb zT zo);have zE:=DY (Nat.le_trans zK zo.size);clear zO zo;go_upto_region 6 with fail
  rw[<-zC];clear zC;go_upto_region 7 with fail
  rw[<-zs];clear zs;have zR:=DY (show∀wr,w6.grownBy wr (Value.slice A n c).ownBlock->∀k:Nat,k<6->∃r0 r1:Int,([(x5,1),(x6,3),(x7,4),(x8,5),(x9,(-1)),(x10,5)]:List (Int×Int)).drop k=(r0,r1)::([(x5,1),(x6,3),(x7,4),(x8,5),(x9,(-1)),(x10,5)]:List (Int×Int)).drop (k+1)/\wr.cell? ⟨w5.heap.size,k*2,none⟩=some (.int .i64 r0)/\wr.cell? ⟨w5.heap.size,k*2+1,none⟩=some (.int .i64 r1) from fun wr hg k hk=>by
   obtain⟨B0,zi⟩:=zw.out.cn;have z0:=(hg.block _ (D0.1 zx.out).1 (Qi zx.out (by decide) (zi.row zw.out.len))).trans zx.out;have:k=0∨k=1∨k=2∨k=3∨k=4∨k=5:=by omega
   rcases this with rfl|rfl|rfl|rfl|rfl|rfl
   ·exact⟨_,_,rfl,Qa z0 0 rfl,Qa z0 1 rfl⟩
   ·exact⟨_,_,rfl,Qa z0 2 rfl,Qa z0 3 rfl⟩
   ·exact⟨_,_,rfl,Qa z0 4 rfl,Qa z0 5 rfl⟩
   ·exact⟨_,_,rfl,Qa z0 6 rfl,Qa z0 7 rfl⟩
   ·exact⟨_,_,rfl,Qa z0 8 rfl,Qa z0 9 rfl⟩
   ·exact⟨_,_,rfl,Qa z0 10 rfl,Qa z0 11 rfl⟩)
  have zB:=DY (show([(x5,1),(x6,3),(x7,4),(x8,5),(x9,(-1)),(x10,5)]:List (Int×Int)).drop 6=[] from rfl)
  obtain⟨zJ,zP,zS⟩:=rep_okc n (by have:=HN.out;omega) HN.out.2;have zG:=DY (And.intro zJ zP);clear zJ zP zS q0 q1 q2 q3 q4 q5 q6 q7 q8 q9 zm;generalize ([(x5,1),(x6,3),(x7,4),(x8,5),(x9,(-1)),(x10,5)]:List (Int×Int))=rl at*;go_wp2_with fail
  go_loopw [48] (fun i wr=>∃(k:Nat) (z2:List Int),k<=6/\i= .int .i64 k/\Hid (w6.grownBy wr (Value.slice A n c).ownBlock/\Rch wr base w4.heap.size m g1 n A c bs z2/\q=Xg (QJ bs (n+1)) (rl.drop k) z2/\Q1 z2<n+1/\Okc (300000+k) z2)) (fun i _=>6-(intOf i).toNat)
  case atStart=>exact⟨0,_,by omega,rfl,DY ⟨NT w6 _,zw.out,by rw[HQ.out,Lw],zG.out.2,by simpa using zG.out.1⟩⟩
  case round=>
   obtain⟨k,z2,hk,rfl,HL⟩:=hrel;by_cases hlt:k<6
   ·obtain⟨r0,r1,zH,e0,e1⟩:=zR.out wr HL.out.1 k hlt;obtain⟨wa,zf,zl,-⟩:=DS wr (.cells #[.int .i64 r0, .int .i64 r1] 166);have c0:wa.cell? ⟨wr.heap.size,0,none⟩=some (.int .i64 r0):=by rw[zf];exact Qa (heap_alloc_new wr _) 0 rfl
    have c1:wa.cell? ⟨wr.heap.size,1,none⟩=some (.int .i64 r1):=by rw[zf];exact Qa (heap_alloc_new wr _) 1 rfl
    have zA:=Nat.le_trans zE HL.out.1.size;have K:=refer_ok (n+1) wa base w4.heap.size m g1 n A c bs z2 r0 r1 (300000+k) (D3 zA zl.size) (HL.out.2.1.below zl zA) HL.out.2.2.2.1 HL.out.2.2.2.2 (by omega);have zg:=Lib.hid (show q=(QJ bs (n+1) (r0,r1) z2).bind (Xg (QJ bs (n+1)) (rl.drop (k+1))) by rw[HL.out.2.2.1,zH];rfl)
    have HO:=Lib.hid (show∀z5,QJ bs (n+1) (r0,r1) z2=some z5->Okc (300000+k+1) z5/\z5.length=z2.length/\Q1 z5<=Q1 z2 from fun z5 h2=>Us (n+1) _ z2 z5 _ h2 HL.out.2.2.2.2);have zL:=Lib.hid zl;clear zl zH zA;generalize QJ bs (n+1) (r0,r1) z2=qv at*;go_upto_region 9 with fail
    rw[<-zf];clear zf e0 e1;go_wp2_with fail
    refine K.mono ?_;rintro e wy ⟨z7,⟨z5,z4,rfl,zp⟩|⟨z4,v,rfl,hv⟩⟩
    ·have HX:=DY (DZ z7 (DZ z4 zp));clear K z7 z4 zp c0 c1;go_wp2;go_roundw
     case rel=>
      obtain⟨z7,z4,zp⟩:=HX.out;obtain⟨o1,o2,o3⟩:=HO.out z5 z4;exact⟨k+1,z5,by omega,by go_num,DY ⟨QC (QC HL.out.1 (Qz zL _)) z7,zp,by rw[zg.out,z4];rfl,Nat.lt_of_le_of_lt o3 HL.out.2.2.2.1,o1.up (by omega)⟩⟩
     case measure=>simp[intOf];omega
    ·have HX:=DY (DZ z7 (DZ z4 hv));obtain⟨t,xx,rfl⟩:=hv.form;clear K z7 z4 hv c0 c1;go_wp2;go_ret2
     obtain⟨z7,z4,hv⟩:=HX.out;exact Zd.err (by rw[zg.out,z4];rfl) hv (zq.out.grown (QC (QC HL.out.1 (Qz zL _)) z7) zq.out.size (fun k hk=>zt.out k hk))
   ·obtain rfl:k=6:=by omega
    obtain⟨B0,zi⟩:=HL.out.2.1.cn;have KL:=list_any zi;have k1:=Qa HL.out.2.1.bx 1 rfl;have zg:=Lib.hid (show q=some z2 by rw[HL.out.2.2.1,zB.out];rfl);clear zi;go_wp2_with fail
    refine KL.mono ?_;rintro e wy ⟨A',c',rfl,z8,hb⟩;have HX:=Lib.hid (DZ z8 hb);have HC':=DY (Xy z8);clear KL z8 hb k1;go_wp2;go_ret2
    have zI:=zq.out.grown HL.out.1 zq.out.size (fun k hk=>zt.out k hk);exact Zd.gives (by rw[zg.out];rfl) (by simp) HC'.out (Q7 HX.out.1 zI.size) (Qb zI HX.out.2)
end Go.Proofs.YtijcgllddnpmhaaGreatDoor
