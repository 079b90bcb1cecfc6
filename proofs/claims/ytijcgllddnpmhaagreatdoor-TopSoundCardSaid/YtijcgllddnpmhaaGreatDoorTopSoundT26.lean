/- TopSound: lemmas, part 26. -/
import Derived.Test.YtijcgllddnpmhaaGreatDoorTopSoundT24
import Derived.Test.YtijcgllddnpmhaaGreatDoorTopSoundT25
set_option maxRecDepth 100000
set_option maxHeartbeats 16000000
set_option linter.all false
namespace Go.Proofs.YtijcgllddnpmhaaGreatDoor
open Go.RowKit Go.Proofs.Tryz
def Wholed(base:Nat)(st:WS)(w:World)(e:Ending)(w':World):Prop:=
 ∃q:WkS,q.st=st/\((st.bad=false/\e= .returned (.tuple #[.agg #[q.E,q.Bk, .int .i64 q.st.deep, .int .i64 q.st.looked,q.F], .nilIface])/\OV base q w w')∨
  (st.bad=true/\∃v,e= .returned (.tuple #[.agg #[.slice none 0 0, .slice none 0 0, .int .i64 0, .int .i64 0, .slice none 0 0],v])/\Qy 40 w' w'.heap.size v/\Below base w w'))
theorem OX{bs:List UInt8}{m:Nat}(root tree fuel:Int)(hfu:fuel<=1000000)(w:World)(hi:ZH w w.heap.size m bs):
  Calls prog 69 #[.pointer (some ⟨m,0,none⟩), .int .i64 root, .int .i64 tree, .int .i64 fuel] w (Wholed w.heap.size (QP bs root tree fuel) w):=by
 obtain⟨st,zd⟩:=DR (QP bs root tree fuel);obtain⟨w1,zb,z6,zc⟩:=DS w (.cells #[.slice none 0 0, .slice none 0 0, .int .i64 0, .int .i64 0, .slice none 0 0] 140);have KS:=scan_any root tree fuel hfu w1 ((hi.below z6).more z6.size);rw[<-zd] at KS ⊢;have z2:=DY z6;have zf:=DY zc;clear z6 zc hi zd;go_enter func69,ntmps69
 go_upto_region 1 with fail
 rw[<-zb];clear zb;go_wp2_with fail
 refine KS.mono ?_;rintro e w2 ⟨q,hq,rfl,hs⟩;obtain⟨E0,E1,hE⟩:=QI hs.e;obtain⟨B0,B1,hB⟩:=QN hs.b;obtain⟨F0,F1,hF⟩:=QN hs.f;rw[hE,hB,hF];obtain⟨w3,za,z4,z7⟩:=DS w2 (.cells #[.slice E0 q.st.ents.length E1, .slice B0 q.nb.length B1, .int .i64 q.st.deep, .int .i64 q.st.looked, .slice F0 q.fl.length F1] 140);have k4:w3.cell? ⟨w2.heap.size,4,none⟩=some (.slice F0 q.fl.length F1):=Qa z7 4 rfl;have HS:=DY hs;have ze:w3.ownsRow w1.heap.size 32 1 (.slice F0 q.fl.length F1) q.fl.length q.fl:=by have:=QT hs.f z4;rw[hF] at this;exact this
 have KF:=first_any 40 F0 F1 q.fl w3 (by have:=hs.bnd.fb;have:=hs.bnd.l1;omega) (Qh.of_own ze) (fun v hv=>(hs.fe v hv).ext z4);have z0:=DY z4;have z5:=DY z7;have HQ:=DY (DZ hE (DZ hB (DZ hF hq)));have z9:=DY (show st.bad=decide (q.fl≠[]) by rw[<-hq];exact hs.bad);clear hs z4 z7 ze hE hB hF hq KS;go_upto_region 2 with fail
 rw[<-za];clear za;go_wp2_with fail
 refine KF.mono ?_;rintro e wx ⟨⟨v,rfl,hv⟩,rfl⟩;rw[<-z9.out] at hv;have z1:w3.heap[w.heap.size]?=some (.cells #[.slice none 0 0, .slice none 0 0, .int .i64 0, .int .i64 0, .slice none 0 0] 140):=Qe (Qe zf (HS.out.bel)) z0;have z3:=DY z1;obtain⟨c0,c1,c2,c3,c4⟩:=DX z1;have f0:=Qf z1 0;have f1:=Qf z1 1;have f2:=Qf z1 2;have f3:=Qf z1 3;have f4:=Qf z1 4;clear z1 KF;have HV:=DY hv;clear hv;cases hbd:st.bad with
 |false=>
  have h0:=HV.out;rw[hbd] at h0;replace h0:v= .nilIface:=h0;subst h0;have k0:=Qa z5 0 rfl;have k1:=Qa z5 1 rfl;have k2:=Qa z5 2 rfl;have k3:=Qa z5 3 rfl;have z8:=DY hbd;clear hbd;go_wp2;refine bodyPost_ret (v:= .tuple #[.agg #[.slice E0 q.st.ents.length E1, .slice B0 q.nb.length B1, .int .i64 q.st.deep, .int .i64 q.st.looked, .slice F0 q.fl.length F1], .nilIface]) (by rw[results_cell_tmp rfl];go_simp) rfl ?_;obtain⟨hE,hB,hF,hq⟩:=HQ.out;have hs:=HS.out;refine⟨q,hq, .inl ⟨z8.out,by rw[hE,hB,hF],?_⟩⟩
  have hg:=Zz w3 w.heap.size (.slice E0 q.st.ents.length E1) (.slice B0 q.nb.length B1) (.int .i64 q.st.deep) (.int .i64 q.st.looked) (.slice F0 q.fl.length F1);have e:=Qk hs.e z0;have b:=QT hs.b z0;have f:=QT hs.f z0;have lo:∀{e:TypeId} {s n:Nat} {v:Value} {xs:List Value},∀{W:World},W.ownsRow w1.heap.size e s v n xs->W.ownsRow w.heap.size e s v n xs:=fun h=>by
   refine⟨h.1,?_⟩;rcases h.2 with hn|⟨g,zg,zh,hv,hg,r⟩
   ·exact .inl hn
   ·exact .inr ⟨g,zg,zh,hv,D3 z2.out.size hg,r⟩
  exact⟨lo (e.kept hg (.inr (Qi z3.out (by decide) e).symm)),lo (b.kept hg (.inr (Qi z3.out (by decide) b).symm)),lo (f.kept hg (.inr (Qi z3.out (by decide) f).symm)),fun v hv=>(((hs.fe v hv).ext z0.out).grown z3.out (by decide) hg).more hg.size,hs.bad,hs.bnd,
   (Qb z2 (hs.bel.trans (z0.out.mono hs.bel.size))).grown hg (D3 z2.out.size (D3 hs.bel.size z0.out.size)) (fun k e=>by cases e;exact Na _)⟩
 |true=>
  have h0:=HV.out;rw[hbd] at h0;replace h0:Qy 40 w3 w3.heap.size v:=h0;obtain⟨t,x,rfl⟩:=h0.form;have H0:=DY h0;have z8:=DY hbd;clear hbd h0;go_wp2;refine bodyPost_ret (v:= .tuple #[.agg #[.slice none 0 0, .slice none 0 0, .int .i64 0, .int .i64 0, .slice none 0 0], .iface t x]) (by rw[results_cell_tmp rfl];go_simp) rfl ?_;have hg:=Zz w3 w.heap.size (.slice none 0 0) (.slice none 0 0) (.int .i64 0) (.int .i64 0) (.slice none 0 0);have hs:=HS.out;exact⟨q,HQ.out.2.2.2, .inr ⟨z8.out,_,rfl,(H0.out.grown z3.out (by decide) hg).more hg.size,(Qb z2.out (hs.bel.trans (z0.out.mono hs.bel.size))).grown hg (D3 z2.out.size (D3 hs.bel.size z0.out.size)) (fun k e=>by cases e;exact Na _)⟩⟩
theorem Tryz.infoSiC:(prog.info? 68).map (fun i=>(i.zero,i.size,i.bytes))=some (some (.slice none 0 0),1,24):=by kernel_rfl
def GW(w:World)(B:Nat)(A:Option Addr)(ls:List (S3×Int×Int)):Prop:=
 0<ls.length->∃b o,A=some ⟨b,o,none⟩/\b<B/\∀(j:Nat) x,ls[j]?=some x->w.cell? ⟨b,o+j*5,none⟩=some (.int .i64 x.1.1)/\w.cell? ⟨b,o+j*5+1,none⟩=some (.int .i64 x.1.2.1)/\w.cell? ⟨b,o+j*5+2,none⟩=some (.int .i64 x.1.2.2)/\w.cell? ⟨b,o+j*5+3,none⟩=some (.int .i64 x.2.1)/\w.cell? ⟨b,o+j*5+4,none⟩=some (.int .i64 x.2.2)
theorem GW.below{w w':World}{B:Nat}{A:Option Addr}{ls:List (S3×Int×Int)}(h:GW w B A ls)(hb:Below B w w'):GW w' B A ls:=fun hn=>by
 obtain⟨b,o,e,z0,hc⟩:=h hn;refine⟨b,o,e,z0,fun j x hj=>?_⟩
 obtain⟨h0,h1,h2,h3,h4⟩:=hc j x hj;exact⟨(hb.cell (p:=⟨b,o+j*5,none⟩) z0).trans h0,(hb.cell (p:=⟨b,o+j*5+1,none⟩) z0).trans h1,(hb.cell (p:=⟨b,o+j*5+2,none⟩) z0).trans h2,(hb.cell (p:=⟨b,o+j*5+3,none⟩) z0).trans h3,(hb.cell (p:=⟨b,o+j*5+4,none⟩) z0).trans h4⟩
def UJ(x:S3×Int×Int):Option S3:=if x.2.2=0 then some x.1 else none
def pv:List (S3×Int×Int)->List Value
 |[]=>[]
 |x::r=> .int .i64 x.1.1:: .int .i64 x.1.2.1:: .int .i64 x.1.2.2:: .int .i64 x.2.1:: .int .i64 x.2.2::pv r
theorem Ei(a b:List (S3×Int×Int)):pv (a++b)=pv a++pv b:=by
 induction a with
 |nil=>rfl
 |cons x r ih=>simp[pv,ih]
theorem pv_get(l:List (S3×Int×Int)):∀j x,l[j]?=some x->(pv l)[j*5]?=some (.int .i64 x.1.1)/\(pv l)[j*5+1]?=some (.int .i64 x.1.2.1)/\(pv l)[j*5+2]?=some (.int .i64 x.1.2.2)/\(pv l)[j*5+3]?=some (.int .i64 x.2.1)/\(pv l)[j*5+4]?=some (.int .i64 x.2.2):=by
 induction l with
 |nil=>intro j x h;simp at h
 |cons y r ih=>
  intro j x h;cases j with
  |zero=>
   simp at h;subst h;exact⟨rfl,rfl,rfl,rfl,rfl⟩
  |succ j=>
   simp at h;obtain⟨h0,h1,h2,h3,h4⟩:=ih j x h;refine⟨?_,?_,?_,?_,?_⟩
   ·rw[show(j+1)*5=j*5+1+1+1+1+1 by omega];simpa[pv] using h0
   ·rw[show(j+1)*5+1=j*5+1+1+1+1+1+1 by omega];simpa[pv] using h1
   ·rw[show(j+1)*5+2=j*5+2+1+1+1+1+1 by omega];simpa[pv] using h2
   ·rw[show(j+1)*5+3=j*5+3+1+1+1+1+1 by omega];simpa[pv] using h3
   ·rw[show(j+1)*5+4=j*5+4+1+1+1+1+1 by omega];simpa[pv] using h4
theorem GW.of_own{w:World}{base:Nat}{e:TypeId}{A:Option Addr}{n c:Nat}{ls:List (S3×Int×Int)}(hn:n=ls.length)(h:w.ownsRow base e 5 (.slice A n c) n (pv ls)):GW w w.heap.size A ls:=fun hp=>by
 rcases h.2 with⟨hv,hz⟩|⟨g,cap,cur,hv,hb,hg,_⟩
 ·omega
 ·injection hv with h1 h2 h3
  subst h1;have hc:=h.cells (g:=g) rfl;refine⟨g,0,rfl,(D0.1 hg).1,fun j p hj=>?_⟩
  obtain⟨t0,t1,t2,t3,t4⟩:=pv_get ls j p hj;have q0:=hc _ _ t0;have q1:=hc _ _ t1;have q2:=hc _ _ t2;have q3:=hc _ _ t3;have q4:=hc _ _ t4;rw[Zo,ND] at q0 q1 q2 q3 q4;rw[ND];exact⟨q0,q1,q2,q3,q4⟩
def AllK(w:World)(wr:World)(v:Value)(q0:Option (List (List Int)))(bs:List UInt8)(n:Int)(rest:List (Option S3))(nk:Int)(ls:List (List Int)):Prop:=
 Below w.heap.size w wr/\Z3 wr w.heap.size v ls/\q0=(Ye bs rest nk).map (fun r=>ls++r)/\(ls.flatten.length:Int)+nk=n/\(ls=[]∨0<=nk)
theorem listsP_cons(bs:List UInt8)(x:Option S3)(r:List (Option S3))(n:Int):Ye bs (x::r) n=(Zm bs x (min n 960)).bind fun l=>(Ye bs r (n-min n 960)).map fun q=>l::q:=rfl
theorem RI{bs:List UInt8}{x:Option S3}{want:Int}{l:List Int}(h:Zm bs x want=some l):(l.length:Int)=want:=by
 unfold Zm at h;cases x with
 |none=>cases h
 |some s=>
  rw[Option.bind_some] at h;cases hb:ZV bs s.1 with
  |none=>rw[hb] at h;cases h
  |some l'=>
   rw[hb,Option.bind_some] at h
   split at h
   ·rename_i h1;cases h;exact h1.1
   ·cases h
theorem OR{w:World}{base m:Nat}{bs:List UInt8}(hi:ZH w base m bs)(hbs:base<=w.heap.size)(A:Option Addr)(c:Nat)(l:List (S3×Int×Int))(over n fuel:Int)(hfu:fuel<=1000000)(hl:l.length<=1000)(hn1:n<=65536)(hn0: -1000000<=n)(h:GW w w.heap.size A l):
  Calls prog 72 #[.pointer (some ⟨m,0,none⟩), .slice A l.length c, .int .i64 over, .int .i64 n, .int .i64 fuel] w (Zd 41 3 1 ((UM bs (l.map UJ) over n fuel).map iv) w):=by
 obtain⟨js,zW,zY,q1,zV⟩:=info_parts Tryz.infoSiC;obtain⟨q,hq⟩:=DR (UM bs (l.map UJ) over n fuel);rw[<-hq];obtain⟨q0,zd⟩:=DR (Ye bs (l.map UJ) n);have HQ:=DY (show q=q0.bind fun ls=>(Xw bs over 5 fuel).bind fun es=>if Yf ls es=0 then some (YY ls es) else none by rw[hq,zd];rfl);have q2:=DY zd;have HM:=DY h;have HI:=DY (DZ hi hbs);have HN:=DY (DZ hn1 (DZ hn0 hfu));clear hq zd h hi hbs hn1 hn0 hfu;go_enter func72,ntmps72
 go_wp2_with fail
 go_loopw [3,12,24] (fun s3 v i wr=>∃(k:Nat) (nk:Int) (ls:List (List Int)),k<=l.length/\i= .int .i64 k/\s3= .int .i64 nk/\Hid (ls.length=k/\AllK w wr v q0 bs n ((l.map UJ).drop k) nk ls)) (fun s3 v i _=>l.length-(intOf i).toNat)
 case atStart=>exact⟨0,n,[],by omega,rfl,rfl,DY ⟨rfl,D6 _ _,Z3.nil _ _,by rw[q2.out,Lw];cases Ye bs (l.map UJ) n<;>rfl,by simp, .inl rfl⟩⟩
 case round=>
  obtain⟨k,nk,ls,hk,rfl,rfl,HH⟩:=hrel;by_cases hlt:k<l.length
  ·obtain⟨b,o,rfl,hb',hc⟩:=(HM.out.below HH.out.2.1) (by omega);obtain⟨x0,x1,x2,x3,x4,hx⟩:∃x0 x1 x2 x3 x4,l[k]=((x0,x1,x2),x3,x4):=⟨_,_,_,_,_,rfl⟩;obtain⟨e0,e1,e2,e3,e4⟩:=hc k _ (D1 hlt);rw[hx] at e0 e1 e2 e3 e4;dsimp only at e0 e1 e2 e3 e4;have HE:=DY (show q0=((Zm bs (if x4=0 then some (x0,x1,x2) else none) (min nk 960)).bind fun l1=>(Ye bs ((l.map UJ).drop (k+1)) (nk-min nk 960)).map fun r=>l1::r).map (fun r=>ls++r) by
    rw[HH.out.2.2.2.1,NO (by simpa using hlt),listsP_cons,List.getElem_map,hx]
    rfl)
   obtain⟨wt,zp⟩:=DR (min nk 960);obtain⟨wa,zy,zf,-⟩:=DS wr (.cells #[.int .i64 x0, .int .i64 x1, .int .i64 x2, .int .i64 x3, .int .i64 x4] 152);have zi:=DY zf;have zM:wa.heap[wr.heap.size]?=some (.cells #[.int .i64 x0, .int .i64 x1, .int .i64 x2, .int .i64 x3, .int .i64 x4] 152):=by rw[zy];exact heap_alloc_new wr _
   obtain⟨z0,z1,z2,z3,z4⟩:=DX zM;have zO:base<=wa.heap.size:=D3 HI.out.2 (D3 HH.out.2.1.size zf.size);have K:=counts_any (HI.out.1.below ((HH.out.2.1.mono HI.out.2).trans (zf.mono (D3 HI.out.2 HH.out.2.1.size)))) zO x0 x1 x2 x3 x4 wt;have q7:=DY (fun l1 (h1:Zm bs (if x4=0 then some (x0,x1,x2) else none) wt=some l1)=>RI h1)
   rw[<-zp] at HE;have zx:=DY (show wt<=nk/\wt<=960/\(wt=nk∨wt=960) by rw[zp];omega);clear hx hc hb' zf zM zO zp;generalize Zm bs (if x4=0 then some (x0,x1,x2) else none) wt=sc at*;go_upto_region 5 with fail
   rw[<-zy];clear zy e0 e1 e2 e3 e4;go_upto_region 6 with fail
   have zh:(if(960:Int)<nk then 960 else nk)=wt:=by
    have:=zx.out
    split<;>omega
   rw[zh];clear zh;go_wp2_with fail
   refine K.mono ?_;rintro e w2 ⟨⟨L,A1,n1,c1,hL,rfl,zN,q4,zH⟩|⟨hL,v',rfl,hv'⟩,zb⟩
   case inr=>
    have HX:=Lib.hid (DZ hv' zb);have HS:=Lib.hid (show sc=none by cases sc with
     |none=>rfl
     |some x=>cases hL)
    obtain⟨t,x,rfl⟩:=hv'.form;clear K hL hv' zb z0 z1 z2 z3 z4;go_wp2;go_ret2
    have zd:q0=none:=by rw[HE.out,HS.out];rfl
    exact Zd.err (by rw[HQ.out,zd];rfl) (HX.out.1.up (by decide)) (Qb (Qb HH.out.2.1 zi.out) HX.out.2)
   obtain⟨l1,zr,rfl⟩:∃l1,sc=some l1/\L=iv l1:=by
    cases sc with
    |none=>cases hL
    |some x=>cases hL;exact⟨x,rfl,rfl⟩
   have hn1:n1=l1.length:=by simpa[iv] using zN.symm
   subst hn1;have HS:=DY zr;have q6:=DY (q7.out l1 zr);have zg:=Qb (Qb HH.out.2.1 zi) zb;obtain⟨vs,zv,zE,zS⟩:=HH.out.2.2.1.keep ((zi.out).trans (zb.mono zi.out.size));have HV:=DY (DZ zE zS);have zU:=DY (Q7 (Q7 zH zi.out.size) HH.out.2.1.size);have zK:=DY zg;have zJ:w.heap.size<=(w2.alloc (.cells #[.slice A1 l1.length c1] 68)).heap.size:=D3 zg.size (Qd w2 _).size;have hkl:ls.length<=1000:=by have:=HH.out.1;omega
   have z7:=zv.alloc (.cells #[.slice A1 l1.length c1] 68);have zZ:=DY zv;obtain⟨nk',zu⟩:=DR (nk-wt);have z6:=HH.out.2.2.2.2;have zt:wrap64 (nk-wt)=nk':=by
    have h1:=zx.out;have h2:=HN.out;have h3:=z6.1;have h4:=z6.2;have h5:(0:Int)<=(ls.flatten.length:Int):=by omega
    have h6: -1000000<=nk:=by
     rcases h4 with h4|h4
     ·rw[h4] at h3;simp at h3;omega
     ·omega
    rw[zu];unfold wrap64;omega
   have zk:=DY (DZ zu z6);clear K hL zN q4 zH zb zv zE zS zg z0 z1 z2 z3 z4 zr zu z6;go_wp2_with (at_builtin;refine Qq _ rfl (.tmp 40) (.tmp 42) _ rfl w.heap.size 1 68 js _ 24 underlying252 zW zY q1 zV rfl (by decide) _ ls.length vs rfl z7 _ _ 1 1 [.slice A1 l1.length c1] rfl rfl (Qh.new w2 [.slice A1 l1.length c1] 68 (0,0)) (by simp[Value.oneCell']) (by simp only[maxLen];omega) (by omega) zJ ?_;intro A7 c7 w7 zc zT zD _)
   have q5:=DY zc;have zQ:=DY (DZ zT zD);clear zc zT zD z7 zJ;go_roundw
   case rel=>
    refine⟨k+1,nk',ls++[l1],by omega,by go_num,by rw[zt],DY ⟨by rw[D7,HH.out.1];rfl,?_,?_,?_,?_,?_⟩⟩
    ·exact zK.out.trans ((Qd w2 (.cells #[.slice A1 l1.length c1] 68)).mono zK.out.size|>.trans zQ.out.2)
    ·exact Z3.snoc zZ HV.out.1 HV.out.2 zU q5 (QC (Qz (Qd w2 (.cells #[.slice A1 l1.length c1] 68)) _) zQ.out.1)
    ·rw[HE.out,HS.out,Option.bind_some,zk.out.1];cases Ye bs ((l.map UJ).drop (k+1)) (nk-wt) with
     |none=>rfl
     |some r=>simp
    ·have h1:=zk.out.1;have h2:=zk.out.2.1;have h3:=q6.out;simp only[List.flatten_append,D7,List.flatten_cons,List.flatten_nil,NZ];omega
    ·right
     have h1:=zk.out.1;have h2:=zx.out;omega
   case measure=>simp[intOf];omega
  ·obtain rfl:k=l.length:=by omega
   have zd:q0=some ls:=by
    rw[HH.out.2.2.2.1,show(l.map UJ).drop l.length=[] by rw[<-NN (f:=UJ),LD]]
    simp[Ye]
   have hQ:q=(Xw bs over 5 fuel).bind fun es=>if Yf ls es=0 then some (YY ls es) else none:=by rw[HQ.out,zd];rfl
   have zm:=OX over 5 fuel HN.out.2.2 wr ((HI.out.1.below (HH.out.2.1.mono HI.out.2)).more (D3 HI.out.2 HH.out.2.1.size));obtain⟨st,zG⟩:=DR (QP bs over 5 fuel);have z5:=Jj bs over 5 fuel;unfold Xw at hQ;rw[<-zG] at hQ zm z5;have zw:=DY hQ;have zj:=DY z5;clear zd hQ zG z5;go_wp2_with fail
   refine zm.mono ?_;rintro e w2 ⟨qk,zn,⟨z8,rfl,za⟩|⟨z8,v',rfl,hv',zb⟩⟩
   case inr=>
    have HX:=Lib.hid (DZ hv' zb);have HS:=Lib.hid (show q=none by rw[zw.out,if_pos z8];rfl);obtain⟨t,x,rfl⟩:=hv'.form;clear zm hv' zb z8 zn;go_wp2;go_ret2
    have zf:=Qd w2 (.cells #[.slice none 0 0, .slice none 0 0, .int .i64 0, .int .i64 0, .slice none 0 0] 140);exact Zd.err (by rw[HS.out];rfl) ((HX.out.1.ext zf).up (by decide)) (Qb (Qb HH.out.2.1 HX.out.2) zf)
   obtain⟨E0,E1,hE⟩:=QI za.e;obtain⟨B0,B1,hB⟩:=QN za.b;obtain⟨F0,F1,hF⟩:=QN za.f;rw[hE,hB,hF];obtain⟨w3,zz,zl,zF⟩:=DS w2 (.cells #[.slice E0 qk.st.ents.length E1, .slice B0 qk.nb.length B1, .int .i64 qk.st.deep, .int .i64 qk.st.looked, .slice F0 qk.fl.length F1] 140);have k0:=Qa zF 0 rfl;have zB:=DY (Qb (HH.out.2.1.trans (za.bel.mono HH.out.2.1.size)) (zl.mono (Na _)));obtain⟨A9,c9,zX,z9⟩:=(HH.out.2.2.1.keep ((za.bel).trans (zl.mono za.bel.size))).lists;have zL:w3.ownsRow wr.heap.size 146 3 (.slice E0 qk.st.ents.length E1) qk.st.ents.length (ev qk.st.ents):=by have:=Qk za.e zl;rw[hE] at this;exact this
   have ze:Jz w3 w3.heap.size E0 qk.st.ents:=Jz.of_own rfl zL;have zq:=HH.out.2.2.2.2;have KJ:=join_any A9 c9 ls E0 E1 qk.st.ents (by have:=HH.out.1;omega) (by
    rcases zq.2 with h0|h0
    ·rw[h0];simp
    ·have:=zq.1;have:=HN.out;omega) (by have:=za.bnd.eb;have:=za.bnd.l1;omega) (by rw[zn];exact zj.out) w3 z9 ze
   have zI:=DY (show q=if Yf ls qk.st.ents=0 then some (YY ls qk.st.ents) else none by rw[zw.out,if_neg (by rw[z8];decide),Option.bind_some,zn]);have zP:=fun(er:Int) (W:World)=>Xk 0 over (.iface 37 (.int .i64 er)) W (Qy.num _ _ _ _)
   have zA:=DY zP;subst zX;clear zm zl zF hE hB hF z9 zL ze zq zP za z8 zn zw zj;generalize Yf ls qk.st.ents=je at*;generalize YY ls qk.st.ents=jv at*;generalize qk.st.ents.length=el at*;go_upto_region 13 with fail
   rw[show w2.alloc (.cells #[.slice E0 el E1, .slice B0 qk.nb.length B1, .int .i64 qk.st.deep, .int .i64 qk.st.looked, .slice F0 qk.fl.length F1] 140)=w3 from zz.symm]
   clear zz;go_wp2_with fail
   refine KJ.mono ?_;rintro e w4 ⟨A',c',rfl,z7,zR⟩;have HX:=DY (DZ z7 (Qb zB zR));have zs:=DY (Xy z7);have q3:=DY (show w.heap.size<=w3.heap.size from zB.out.size);clear KJ z7 zR k0;by_cases hj:je=0
   ·have HS:=Lib.hid (show q=some jv by rw[zI.out,if_pos hj]);subst hj;go_wp2;go_ret2
    exact Zd.gives (by rw[HS.out];rfl) (by simp) zs (Q7 HX.out.1 q3) HX.out.2
   ·have HS:=Lib.hid (show q=none by rw[zI.out,if_neg hj]);have d1:(je !=0)=true:=by rw[bne_iff_ne];exact hj
    have K:=zA.out je w4;clear hj zA;go_wp2_with fail
    refine K.mono ?_;rintro e w5 ⟨v5,rfl,zo,zC⟩;have HV:=Lib.hid (DZ zo zC);obtain⟨t,x,rfl⟩:=zo.form;clear K zo zC;go_wp2;go_ret2
    exact Zd.err (by rw[HS.out];rfl) (HV.out.1.up (by decide)) (Qb HX.out.2 HV.out.2)
def WhU(base:Nat)(st:WS)(w:World)(E0:Option Addr)(el E1:Nat)(v:Value):Prop:=
 (st.bad=false/\v= .nilIface/\el=st.ents.length/\w.ownsRow base 146 3 (.slice E0 el E1) el (ev st.ents)/\el<=18000000)∨(st.bad=true/\Qy 40 w w.heap.size v)
theorem WhU.keep{base:Nat}{st:WS}{w w':World}{E0:Option Addr}{el E1:Nat}{v:Value}(h:WhU base st w E0 el E1 v)(hb:Below w.heap.size w w'):WhU base st w' E0 el E1 v:=by
 rcases h with⟨a,b,c,d,e⟩|⟨a,b⟩
 ·exact .inl ⟨a,b,c,Qk d hb,e⟩
 ·exact .inr ⟨a,b.ext hb⟩
theorem WhU.grown{base r:Nat}{st:WS}{w w':World}{E0:Option Addr}{el E1:Nat}{v:Value}{cs:Array Value}{t:TypeId}{fz:Nat×Nat}(h:WhU base st w E0 el E1 v)(hr:w.heap[r]?=some (.cells cs t fz))(h1:t≠146)(h2:t≠179)(hg:w.grownBy w' (some r)):WhU base st w' E0 el E1 v:=by
 rcases h with⟨a,b,c,d,e⟩|⟨a,b⟩
 ·exact .inl ⟨a,b,c,d.kept hg (.inr (Qi hr h1 d).symm),e⟩
 ·exact .inr ⟨a,(b.grown hr h2 hg).more hg.size⟩
theorem WhU.mono{base base':Nat}{st:WS}{w:World}{E0:Option Addr}{el E1:Nat}{v:Value}(h:WhU base st w E0 el E1 v)(hb:base'<=base):WhU base' st w E0 el E1 v:=by
 rcases h with⟨a,b,c,d,e⟩|⟨a,b⟩
 ·exact .inl ⟨a,b,c,QO d hb,e⟩
 ·exact .inr ⟨a,b⟩
theorem WhU.form{base:Nat}{st:WS}{w:World}{E0:Option Addr}{el E1:Nat}{v:Value}(h:WhU base st w E0 el E1 v):v= .nilIface∨∃t x,v= .iface t x:=by
 rcases h with⟨a,b,c,d,e⟩|⟨a,b⟩
 ·exact .inl b
 ·exact .inr b.form
theorem Rt{bs:List UInt8}{m base:Nat}(root tree fuel:Int)(hfu:fuel<=1000000)(w:World)(hi:ZH w base m bs)(hbs:base<=w.heap.size):
  Calls prog 69 #[.pointer (some ⟨m,0,none⟩), .int .i64 root, .int .i64 tree, .int .i64 fuel] w fun e w'=>
   ∃E0 el E1 B0 bl B1 d lk F0 fl F1 v,e= .returned (.tuple #[.agg #[.slice E0 el E1, .slice B0 bl B1, .int .i64 d, .int .i64 lk, .slice F0 fl F1],v])/\WhU w.heap.size (QP bs root tree fuel) w' E0 el E1 v/\Below w.heap.size w w':=by
 refine(OX root tree fuel hfu w (hi.more hbs)).mono ?_;rintro e w' ⟨q,hq,⟨hb,rfl,hs⟩|⟨hb,v,rfl,hv,z0⟩⟩
 ·obtain⟨E0,E1,hE⟩:=QI hs.e;obtain⟨B0,B1,hB⟩:=QN hs.b;obtain⟨F0,F1,hF⟩:=QN hs.f;refine⟨E0,q.st.ents.length,E1,B0,q.nb.length,B1,q.st.deep,q.st.looked,F0,q.fl.length,F1, .nilIface,by rw[hE,hB,hF,hq], .inl ⟨hb,rfl,by rw[hq],?_,?_⟩,hs.bel⟩
  ·have:=hs.e;rw[hE] at this;rw[<-hq];exact this
  ·have:=hs.bnd.eb;have:=hs.bnd.l1;omega
 ·exact⟨none,0,0,none,0,0,0,0,none,0,0,v,rfl, .inr ⟨hb,hv⟩,z0⟩
theorem JV{w:World}{r:Nat}{t:TypeId}{c0 c1 c2 c3 c4:Value}(hr:w.heap[r]?=some (Obj.cells #[c0,c1,c2,c3,c4] t))(x0 x1 x2 x3 x4:Value):
  (((((w.setCell ⟨r,0,none⟩ x0).setCell ⟨r,1,none⟩ x1).setCell ⟨r,2,none⟩ x2).setCell ⟨r,3,none⟩ x3).setCell ⟨r,4,none⟩ x4).heap[r]?=some (Obj.cells #[x0,x1,x2,x3,x4] t):=by
 rw[heap_setCell_same _ r 4 _ _ x4 (heap_setCell_same _ r 3 _ _ x3 (heap_setCell_same _ r 2 _ _ x2 (heap_setCell_same _ r 1 _ _ x1 (heap_setCell_same w r 0 _ _ x0 hr))))];simp
theorem mapM_drop{α β:Type}(f:α->Option β)(l:List α)(k:Nat)(h:k<l.length)(ms:List β):((l.drop k).mapM f).map (fun r=>ms++r)=(f l[k]).bind fun y=>((l.drop (k+1)).mapM f).map fun r=>(ms++[y])++r:=by
 rw[NO h,Lq];cases f l[k] with
 |none=>rfl
 |some y=>
  cases(l.drop (k+1)).mapM f with
  |none=>rfl
  |some r=>simp
def MapsMid(base:Nat)(st:WS)(w2:World)(s6 s7 s24:Value)(wx:World):Prop:=
 Below w2.heap.size w2 wx/\∃X E0 el E1 B0 bl B1 d lk F0 fl F1,s6= .pointer (some ⟨X,0,none⟩)/\s24= .agg #[.slice E0 el E1, .slice B0 bl B1, .int .i64 d, .int .i64 lk, .slice F0 fl F1]/\
  wx.heap[X]?=some (.cells #[.slice E0 el E1, .slice B0 bl B1, .int .i64 d, .int .i64 lk, .slice F0 fl F1] 140)/\WhU base st wx E0 el E1 s7
theorem Tryz.infoMapL:(prog.info? 52).map (fun i=>(i.zero,i.size,i.bytes))=some (some (.agg #[.int .i64 0, .int .i64 0, .int .i64 0]),3,24):=by kernel_rfl
theorem lmaps_any{w:World}{base m:Nat}{bs:List UInt8}(hi:ZH w base m bs)(hbs:base<=w.heap.size)(g:Nat)(data fuel root:Int)(hfu:fuel<=1000000)(hg:g<w.heap.size)(h0:w.cell? ⟨g,0,none⟩=some (.pointer (some ⟨m,0,none⟩)))(h1:w.cell? ⟨g,1,none⟩=some (.int .i64 data))(h2:w.cell? ⟨g,2,none⟩=some (.int .i64 fuel)):
  Calls prog 189 #[.pointer (some ⟨g,0,none⟩), .int .i64 root] w (Zd 40 52 3 ((ZM bs data fuel root).map mv) w):=by
 obtain⟨js,zH,zJ,zK,zD⟩:=info_parts Tryz.infoMapL;obtain⟨q,hq⟩:=DR (ZM bs data fuel root);rw[<-hq];have HQ:=DY (show q=if(QP bs root 2 fuel).bad=true then none else(QP bs root 2 fuel).ents.mapM (ZN data) by
  rw[hq];unfold ZM Xw
  split<;>rfl)
 have z7:=Ur bs root 2 fuel;have KB:=DY (fun(V:World) (hS:Below w.heap.size w V)=>Rt root 2 fuel hfu V (hi.below (hS.mono hbs)) (D3 hbs hS.size));obtain⟨st,zt⟩:=DR (QP bs root 2 fuel);rw[<-zt] at z7 HQ KB;have HV:=DY z7;have HG:=DY (DZ hg (DZ h1 (DZ hi hbs)));clear hq zt hi hbs z7 h1 hg;go_enter func189,ntmps189
 go_upto_region 1 with fail
 go_cut [6,7,13,23,24,25] (fun s6 s7 s13 s23 s24 s25 wx=>s13= .tuple #[s24,s7]/\s23= .tuple #[s24,s7]/\s25=s7/\MapsMid w.heap.size st w s6 s7 s24 wx)
 case first=>
  have zy:=(D6 w.heap.size w).drew;have za:=DY (fun(V V':World) (hb:Below V.heap.size V V') (hS:Below w.heap.size w V/\V.cell? ⟨g,0,none⟩=some (.pointer (some ⟨m,0,none⟩))/\V.cell? ⟨g,2,none⟩=some (.int .i64 fuel))=>
   (show Below w.heap.size w V'/\V'.cell? ⟨g,0,none⟩=some (.pointer (some ⟨m,0,none⟩))/\V'.cell? ⟨g,2,none⟩=some (.int .i64 fuel) from⟨Qb hS.1 hb,Qg hb hS.2.1,Qg hb hS.2.2⟩))
  have zz:=DY (fun(V:World) (r:Nat) (hr:w.heap.size<=r) (x0 x1 x2 x3 x4:Value) (hS:Below w.heap.size w V/\V.cell? ⟨g,0,none⟩=some (.pointer (some ⟨m,0,none⟩))/\V.cell? ⟨g,2,none⟩=some (.int .i64 fuel))=>
   (show Below w.heap.size w (((((V.setCell ⟨r,0,none⟩ x0).setCell ⟨r,1,none⟩ x1).setCell ⟨r,2,none⟩ x2).setCell ⟨r,3,none⟩ x3).setCell ⟨r,4,none⟩ x4)/\(((((V.setCell ⟨r,0,none⟩ x0).setCell ⟨r,1,none⟩ x1).setCell ⟨r,2,none⟩ x2).setCell ⟨r,3,none⟩ x3).setCell ⟨r,4,none⟩ x4).cell? ⟨g,0,none⟩=some (.pointer (some ⟨m,0,none⟩))/\(((((V.setCell ⟨r,0,none⟩ x0).setCell ⟨r,1,none⟩ x1).setCell ⟨r,2,none⟩ x2).setCell ⟨r,3,none⟩ x3).setCell ⟨r,4,none⟩ x4).cell? ⟨g,2,none⟩=some (.int .i64 fuel) from by
    have hb:=(D6 w.heap.size V).grown (Zz V r x0 x1 x2 x3 x4) hS.1.size (fun k hk=>by have:=Nd hk;omega);exact⟨hS.1.trans hb,(hb.cell (p:=⟨g,0,none⟩) HG.out.1).trans hS.2.1,(hb.cell (p:=⟨g,2,none⟩) HG.out.1).trans hS.2.2⟩))
  have zL:=DY (show(w.drew.alloc (.cells #[.slice none 0 0, .slice none 0 0, .int .i64 0, .int .i64 0, .slice none 0 0] 140)).heap[w.heap.size]?=some (.cells #[.slice none 0 0, .slice none 0 0, .int .i64 0, .int .i64 0, .slice none 0 0] 140) from heap_alloc_new w.drew _);refine wp_region_held_drew (S:=(fun V=>Below w.heap.size w V/\V.cell? ⟨g,0,none⟩=some (.pointer (some ⟨m,0,none⟩))/\V.cell? ⟨g,2,none⟩=some (.int .i64 fuel))) (by kernel_rfl) ?_ (fun hHeld=>?_)
  (focus((try dsimp only);(first|exact⟨zy,h0,h2⟩|with_reducible exact za.out _ _ zj hHeld|with_reducible exact za.out _ _ (Qd _ _) zr.out|with_reducible exact za.out _ _ (Qd _ _) hHeld|exact zz.out w9 w.heap.size (Na _) _ _ _ _ _ hHeld)))
  refine QD (.f 0 (.f 1 (.f 2 (.f 3 (.f 4 (.f 5 (.f 6 (.f 7 (.f 8 (.t 9 (.f 10 (.f 11 (.f 12 (.o 13 (.o 14 (.f 15 .e)))))) 13 (.o 9 (.f 10 (.f 11 (.f 12 (.o 14 (.f 15 .e)))))))))))))))) ?_
  repeat' ((first|(refine QL (v:=?_) (hv:=?_) (h:=?_);rotate_left;(focus(first|(refine .inr ⟨by rfl,?_⟩;rfl)|(refine .inl ⟨by rfl,?_⟩;intro w hSw;(try dsimp only at hSw);(try simp only[D8,D4,D5]);go_simp;try(with_reducible rfl)))))|(refine Qr (h:=?_))|(((first|refine Qx (h:=fun K hK=>?_)|refine Zt (h:=fun K hK=>?_) (h':=fun K hK=>?_))<;>((try simp only[D8,D4,D5]);go_simp))<;>((first|(go_at_call 69;refine(KB.out _ hHeld.1).mono ?_;rintro e w9 ⟨E0,el,E1,B0,bl,B1,dd,lk,F0,fl,F1,v,rfl,zb,zj⟩;have zC:=DY (zb.mono hHeld.1.size);have zr:=DY (za.out _ _ zj hHeld);clear zb;first|(have z5:=Qe zL.out zj;have q0:=Qa z5 0 rfl;have q1:=Qa z5 1 rfl;have q2:=Qa z5 2 rfl;have q3:=Qa z5 3 rfl;have q4:=Qa z5 4 rfl;have z0:=Qf z5 0;have z1:=Qf z5 1;have z2:=Qf z5 2;have z3:=Qf z5 3;have z4:=Qf z5 4;have zp:=DY z5;clear z5)|skip)|skip);refine hK.out _ _ ?_ (fun hHeld=>?_);(focus((try dsimp only);(first|exact⟨zy,h0,h2⟩|with_reducible exact za.out _ _ zj hHeld|with_reducible exact za.out _ _ (Qd _ _) zr.out|with_reducible exact za.out _ _ (Qd _ _) hHeld|exact zz.out w9 w.heap.size (Na _) _ _ _ _ _ hHeld)));clear hK K)))<;>(try simp only[Act.put,Nc,Nf,Ng]))
  all_goals (refine Qu ?_;refine wpAnyH_done (by kernel_rfl) ?_ _)
  ·go_wp2;go_meet
   exact⟨rfl,rfl,rfl,hHeld.1,w9.heap.size,E0,el,E1,B0,bl,B1,dd,lk,F0,fl,F1,rfl,rfl,heap_alloc_new w9 _,zC.out.keep (Qd w9 _)⟩
  ·go_wp2;go_meet
   exact⟨rfl,rfl,rfl,hHeld.1,w.heap.size,E0,el,E1,B0,bl,B1,dd,lk,F0,fl,F1,rfl,rfl,JV zp.out _ _ _ _ _,zC.out.grown zp.out (by decide) (by decide) (Zz _ _ _ _ _ _ _)⟩
 case rest=>
  obtain⟨rfl,rfl,rfl,zB,X,E0,el,E1,B0,bl,B1,dd,lk,F0,fl,F1,rfl,rfl,hX,zb⟩:=hcut;have zg:=DY zB;have zd:=zb.form;have z9:=DY (show∀(t:TypeId) (x:Value),u25= .iface t x->st.bad=true/\Qy 40 wc wc.heap.size u25 from fun t x hs=>by
   rcases zb with⟨a,b,-⟩|h
   ·rw[b] at hs;cases hs
   ·exact h)
  have zm:=DY (show u25= .nilIface->st.bad=false/\el=st.ents.length/\wc.ownsRow w.heap.size 146 3 (.slice E0 el E1) el (ev st.ents)/\el<=18000000 from fun hs=>by
   rcases zb with⟨a,b,c,d,e⟩|⟨a,b⟩
   ·exact⟨a,c,d,e⟩
   ·obtain⟨t,x,rfl⟩:=b.form;cases hs)
  clear zb zB;rcases zd with rfl|⟨t,x,rfl⟩
  case inr=>
   have HX:=DY (z9.out t x rfl);have HS:=DY (show q=none by rw[HQ.out,if_pos HX.out.1]);clear zm z9 hX h0 h2;go_wp2;go_ret2
   exact Zd.err (by rw[HS.out];rfl) HX.out.2 zg
  obtain⟨zi,zG,z6,hem⟩:=zm.out rfl;subst zG;have HM:=DY (show Jz wc wc.heap.size E0 st.ents from Jz.of_own rfl z6);have zN:=DY (show q=st.ents.mapM (ZN data) by rw[HQ.out,if_neg (by rw[zi];decide)]);have HD:=DY (Qg zg HG.out.2.1);have x0:=Qa hX 0 rfl;clear zm z9 zi z6 HQ hX h0 h2;generalize st.ents=es at*;go_wp2_with fail
  go_loopw [8,32] (fun v i wr=>∃(k:Nat) (ms:List ZO),k<=es.length/\i= .int .i64 k/\Hid (ms.length=k/\Below wc.heap.size wc wr/\wr.ownsRow wc.heap.size 52 3 v k (mv ms)/\q=((es.drop k).mapM (ZN data)).map (fun r=>ms++r))) (fun v i _=>es.length-(intOf i).toNat)
  case atStart=>exact⟨0,[],by omega,rfl,DY ⟨rfl,D6 _ _,Nb _ _ _ _,by rw[zN.out,Lw];cases es.mapM (ZN data)<;>rfl⟩⟩
  case round=>
   obtain⟨k,ms,hk,rfl,HH⟩:=hrel;by_cases hlt:k<es.length
   ·obtain⟨b,o,rfl,hb',hc⟩:=(HM.out.below HH.out.2.1) (by omega);obtain⟨y0,y1,y2,hx⟩:∃y0 y1 y2,es[k]=⟨y0,y1,y2⟩:=⟨_,_,_,rfl⟩;obtain⟨e0,e1,e2⟩:=hc k _ (D1 hlt);rw[hx] at e0 e1 e2;dsimp only at e0 e1 e2;have zw:y1.length<=reachBytes:=by
     have:=HV.out _ (Nm hlt);rw[hx] at this;have this:y1.length<=24:=this;simp only[reachBytes];omega
    obtain⟨wa,zA,zl,zx⟩:=DS wr (.cells #[.int .i64 y0, .string ⟨y1.toArray⟩, .int .i64 y2] 146);obtain⟨z0,z1,z2⟩:=DV zx;have zh:=Lib.hid zl;have HO:=Lib.hid (Qk HH.out.2.2.1 zl);have KM:=Dq g y0 y1 y2 data wa (Qg zl (Qg HH.out.2.1 HD)) zw;have HE:=Lib.hid (show q=(ZN data ⟨y0,y1,y2⟩).bind fun y=>((es.drop (k+1)).mapM (ZN data)).map fun r=>(ms++[y])++r by rw[HH.out.2.2.2,mapM_drop _ _ k hlt,hx])
    clear hx hc hb' zl zx zw;generalize ZN data ⟨y0,y1,y2⟩=so at*;go_upto_region 8 with fail
    rw[<-zA];clear zA e0 e1 e2;go_wp2_with fail
    refine KM.mono ?_;rintro e w5 ⟨⟨mm,zf,rfl⟩|⟨zf,v,rfl,hv⟩,ze⟩
    case inr=>
     have HX:=DY (DZ zf (DZ hv ze));obtain⟨t,x,rfl⟩:=hv.form;clear KM zf hv ze z0 z1 z2 x0;go_wp2;go_ret2
     have zc:=Qd w5 (.cells #[.int .i64 0, .int .i64 0, .int .i64 0] 52);exact Zd.err (by rw[HE.out,HX.out.1];rfl) ((HX.out.2.1.ext zc).up (by decide)) (Qb (Qb (Qb (Qb zg.out HH.out.2.1) zh.out) HX.out.2.2) zc)
    have zF:=Lib.hid (show q=((es.drop (k+1)).mapM (ZN data)).map fun r=>(ms++[mm])++r by rw[HE.out,zf,Option.bind_some])
    obtain⟨wb,zu,zc,zq⟩:=DS w5 (.cells #[.int .i64 mm.v, .int .i64 mm.b, .int .i64 mm.t] 52);obtain⟨u0,u1,u2⟩:=DV zq;have zn:=Lib.hid (Qb ze zc);have z6:=(Qk (Qk HO ze) zc).alloc (.cells #[.int .i64 mm.v, .int .i64 mm.b, .int .i64 mm.t] 52);have zv:wc.heap.size<=(wb.alloc (.cells #[.int .i64 mm.v, .int .i64 mm.b, .int .i64 mm.t] 52)).heap.size:=D3 HH.out.2.1.size (D3 zh.out.size (D3 zn.out.size (Qd wb _).size));have zM:=Lib.hid (show mv (ms++[mm])=mv ms++[.int .i64 mm.v, .int .i64 mm.b, .int .i64 mm.t] by rw[Ev];rfl);have hkl:k<=18000000:=by omega
    clear KM ze zc zq z0 z1 z2 zf HE;generalize mm.v=m0 at*;generalize mm.b=m1 at*;generalize mm.t=m2 at*;go_upto_region 9 with fail
    rw[show w5.alloc (.cells #[.int .i64 m0, .int .i64 m1, .int .i64 m2] 52)=wb from zu.symm]
    clear zu;go_wp2_with (at_builtin;refine Qq _ rfl (.tmp 45) (.tmp 47) _ rfl wc.heap.size 3 52 js _ 24 underlying47 zH zJ zK zD rfl (by decide) _ k (mv ms) rfl z6 _ _ 1 1 [.int .i64 m0, .int .i64 m1, .int .i64 m2] rfl rfl (Qh.new wb [.int .i64 m0, .int .i64 m1, .int .i64 m2] 52 (0,0)) (by simp[Value.oneCell']) (by simp only[maxLen];omega) (by omega) zv ?_;intro A7 c7 w7 z8 zR zo _)
    have zQ:=Lib.hid z8;have zP:=Lib.hid zo;clear z8 zR zo z6 zv u0 u1 u2;go_roundw
    case rel=>exact⟨k+1,ms++[mm],by omega,by go_num,DY ⟨by rw[D7,HH.out.1];rfl,((HH.out.2.1.trans (zh.out.mono HH.out.2.1.size)).trans (zn.out.mono (D3 HH.out.2.1.size zh.out.size))).trans (((Qd wb _).mono (D3 HH.out.2.1.size (D3 zh.out.size zn.out.size))).trans zP),by rw[zM.out];exact zQ.out,zF.out⟩⟩
    case measure=>simp[intOf];omega
   ·obtain rfl:k=es.length:=by omega
    have zE:=Lib.hid (show q=some ms by rw[HH.out.2.2.2,LD];simp);obtain⟨A9,c9,zs⟩:=QI HH.out.2.2.1;have zk:=HH.out.2.2.1;rw[zs] at zk;have zO:=Lib.hid (QO zk zg.out.size);have zI:=Lib.hid (YI zk);subst zs;clear zk;go_wp2;go_ret2
    exact Zd.gives (by rw[zE.out];rfl) (by rw[mv_len,HH.out.1]) zI zO (Qb zg HH.out.2.1)
theorem rhas_bits{d:Nat}(w:World)(base g m gc n:Nat)(A:Option Addr)(c:Nat)(bs:List UInt8)(cs:List Int)(no:Int)(hbs:base<=w.heap.size)(h:Rch w base g m gc n A c bs cs):
  Calls prog 132 #[.pointer (some ⟨g,0,none⟩), .int .i64 no, .int .i64 (-2)] w (UN base g m gc n A c bs (Ud bs (QJ bs d) no (-2) cs) w):=by
 obtain⟨q,hq⟩:=DR (Ud bs (QJ bs d) no (-2) cs);rw[<-hq];have HQ:=DY (show q=(ZV bs no).map fun _=>cs by rw[hq];unfold Ud;rw[if_neg (by decide),if_pos rfl]);have KI:=EX h.im no;have kb:=Qa h.bx 0 rfl;have HH:=DY (DZ h hbs);clear hq hbs h;go_enter func132,ntmps132
 go_wp2_with fail
 refine KI.mono ?_;rintro e w2 ⟨⟨L,A2,n2,c2,hL,rfl,hl,hc,z2⟩|⟨hL,v,rfl,hv⟩,z0⟩
 ·have HL:=DY (show q=some cs by
   rw[HQ.out];cases hx:ZV bs no with
   |none=>rw[hx] at hL;cases hL
   |some x=>rfl)
  have z1:=DY z0;clear hL hl hc z2 z0 kb KI HQ;go_wp2;go_ret;exact⟨Qz z1 _, .inl ⟨cs,HL.out,rfl,HH.out.1.below z1 HH.out.2⟩⟩
 ·have HL:=DY (show q=none by
   rw[HQ.out];cases hx:ZV bs no with
   |none=>rfl
   |some x=>rw[hx] at hL;cases hL)
  have z1:=DY z0;have HV:=DY hv;obtain⟨t,x,rfl⟩:=hv.form;clear hL z0 kb KI HQ hv;go_wp2;go_ret;exact⟨Qz z1.out _, .inr ⟨HL.out,_,rfl,HV.out.up (by decide)⟩⟩
theorem rhas_node{d:Nat}(hR:GD d)(w:World)(base g m gc n:Nat)(A:Option Addr)(c:Nat)(bs:List UInt8)(cs:List Int)(no as_ N:Int)(ha1:as_≠ -1)(ha2:as_≠ -2)(hbs:base<=w.heap.size)(h:Rch w base g m gc n A c bs cs)(hz:Q1 cs<d)(ho:Okc N cs)(hN:N+17<=1000000000):
  Calls prog 132 #[.pointer (some ⟨g,0,none⟩), .int .i64 no, .int .i64 as_] w (UN base g m gc n A c bs (Ud bs (QJ bs d) no as_ cs) w):=by
 obtain⟨q,hq⟩:=DR (Ud bs (QJ bs d) no as_ cs);rw[<-hq];have HQ:=DY (show q=(ZD bs no as_).bind fun x=>Xg (Vo (QJ bs d) x) x.vals cs by rw[hq];unfold Ud;rw[if_neg ha1,if_neg ha2];rfl);have KI:=GA h.im no as_;have kb:=Qa h.bx 0 rfl;have d1:(as_== -1)=false:=by rw[beq_eq_false_iff_ne];exact ha1
 have d2:(as_== -2)=false:=by rw[beq_eq_false_iff_ne];exact ha2
 have HH:=DY (DZ h (DZ hz (DZ ho (DZ hbs hN))));have HR:=DY hR;have zc:=DY (fun x (hx:ZD bs no as_=some x)=>Vd hx);clear hq hbs h hz ho hN hR ha1 ha2;go_enter func132,ntmps132
 go_upto_region 9 with(refine KI.mono ?_;rintro e w2 ⟨⟨x,A3,c3,A4,c4,hx,rfl,zg⟩|⟨hx,v,rfl,hv⟩,z7⟩)
 ·obtain⟨wa,z6,z3,zb⟩:=DS w2 (.cells #[.int .i64 x.t, .bool x.leaf, .slice A3 x.keys.length c3, .slice A4 x.vals.length c4] 113);rw[<-z6];have za:=zc.out x hx;have HE:=DY (show q=Xg (Vo (QJ bs d) x) x.vals cs by rw[HQ.out,hx,Option.bind_some]);have z8:=Qb z7 z3;have HA:=DY (And.intro (HH.out.1.below z8 HH.out.2.2.2.1) (DZ zb (DZ (zg.keep z3) (DZ z8 za))));have zj:=DY (show base<=wa.heap.size from D3 HH.out.2.2.2.1 z8.size);have k3:=Qa zb 3 rfl;have zi:=DY za.2.2;have zk:x.vals.length<=18:=by omega
  have HVV:=DY zk;clear z6 z3 zb za z8 zg hx z7 KI kb zc HQ d1 d2;have zh:=DY (show∀wr,wa.grownBy wr (Value.slice A n c).ownBlock->wr.heap[w2.heap.size]?=some (.cells #[.int .i64 x.t, .bool x.leaf, .slice A3 x.keys.length c3, .slice A4 x.vals.length c4] 113)/\Qh wr wr.heap.size A4 (sv x.vals) from fun wr hg=>by
   obtain⟨h1,h2,h3,-⟩:=HA.out;obtain⟨B0,ze⟩:=h1.cn;have hn:=h1.len;subst hn;refine⟨(hg.block _ (D0.1 h2).1 (Qi h2 (by decide) ze.2.1)).trans h2,?_⟩;exact Qh.of_own (h3.v.kept hg (Zk h3.v ze.2.1 (by decide))))
  go_wp2_with fail
  go_loopw [62] (fun i wr=>∃(k:Nat) (z0:List Int),k<=x.vals.length/\i= .int .i64 k/\Hid (wa.grownBy wr (Value.slice A n c).ownBlock/\Rch wr base g m gc n A c bs z0/\q=Xg (Vo (QJ bs d) x) (x.vals.drop k) z0/\Q1 z0<d/\Okc (N+k) z0)) (fun i _=>x.vals.length-(intOf i).toNat)
  case atStart=>exact⟨0,cs,by omega,rfl,DY ⟨NT wa _,HA.out.1,by rw[HE.out,Lw],HH.out.2.1,by simpa using HH.out.2.2.1⟩⟩
  case round=>
   obtain⟨k,z0,hk,rfl,HL⟩:=hrel;by_cases hlt:k<x.vals.length
   ·obtain⟨z5,zf⟩:=zh.out wr HL.out.1;obtain⟨ad,zl,_,hc⟩:=zf.at_ (k:=k) (by simp[sv];omega);have hc':wr.cell? (ad.add k)=some (.string ⟨(x.vals[k]).toArray⟩):=by rw[hc];simp[sv]
    obtain⟨q0,q1,q2,q3⟩:=DW z5;have K:=rval_any HR wr base g m gc n A c bs z0 no (N+k) x A3 A4 x.keys.length x.vals.length c3 c4 x.vals[k] (D3 zj HL.out.1.size) HL.out.2.1 HL.out.2.2.2.1 HL.out.2.2.2.2 (by have:=HH.out.2.2.2.2;omega) (by have:=zi.out _ (Nm hlt);simp only[reachBytes];omega);have zd:=Lib.hid (show q=(Vo (QJ bs d) x x.vals[k] z0).bind (Xg (Vo (QJ bs d) x) (x.vals.drop (k+1))) by rw[HL.out.2.2.1,Gq _ _ k hlt z0])
    have HO:=Lib.hid (show∀z4,Vo (QJ bs d) x x.vals[k] z0=some z4->Okc (N+k+1) z4/\Q1 z4<=Q1 z0 from fun z4 h2=>val_okc h2 HL.out.2.2.2.2);subst zl;clear z5 zf hc;generalize Vo (QJ bs d) x x.vals[k] z0=qv at*;generalize x.vals[k]=vk at*;go_wp2_with fail
    refine K.mono ?_;rintro e w3 ⟨z2,⟨z4,z1,rfl,z9⟩|⟨z1,v,rfl,hv⟩⟩
    ·have HX:=DY (DZ z2 (DZ z1 z9));clear K z2 z1 z9 q0 q1 q2 q3 hc';go_wp2;go_roundw
     case rel=>
      obtain⟨z2,z1,z9⟩:=HX.out;obtain⟨o1,o2⟩:=HO.out z4 z1;exact⟨k+1,z4,by omega,by go_num,DY ⟨QC HL.out.1 z2,z9,by rw[zd.out,z1];rfl,LG o2 HL.out.2.2.2.1,o1.up (by omega)⟩⟩
     case measure=>simp[intOf];omega
    ·have HX:=DY (DZ z2 (DZ z1 hv));obtain⟨t,xx,rfl⟩:=hv.form;clear K z2 z1 hv q0 q1 q2 q3 hc';go_wp2;go_ret;obtain⟨z2,z1,hv⟩:=HX.out;exact⟨QC (QC (Qz HA.out.2.2.2.1 _) HL.out.1) z2, .inr ⟨by rw[zd.out,z1];rfl,_,rfl,hv⟩⟩
   ·obtain rfl:k=x.vals.length:=by omega
    go_wp2;go_ret;exact⟨QC (Qz HA.out.2.2.2.1 _) HL.out.1, .inl ⟨z0,by rw[HL.out.2.2.1,LD];rfl,rfl,HL.out.2.1⟩⟩
 ·have HE:=DY (show q=none by rw[HQ.out,hx];rfl);obtain⟨wa,z6,z3,-⟩:=DS w2 (.cells #[.int .i64 0, .bool false, .slice none 0 0, .slice none 0 0] 113);rw[<-z6];have HB:=DY (And.intro (Qb z7 z3) (hv.ext z3));obtain⟨t,xx,rfl⟩:=hv.form;clear z6 z3 z7 hv hx KI kb HQ zc d1 d2;go_wp2;go_ret;exact⟨Qz HB.out.1 _, .inr ⟨HE.out,_,rfl,HB.out.2.up (by decide)⟩⟩
theorem rhas_any{d:Nat}(hR:GD d):HasOK d:=by
 intro w z0 g m gc n A c bs cs no z2 N z1 h hz ho hN;by_cases h1:z2= -1
 ·subst h1;exact rhas_index hR w z0 g m gc n A c bs cs no N z1 h hz ho hN
 ·by_cases h2:z2= -2
  ·subst h2;exact rhas_bits w z0 g m gc n A c bs cs no z1 h
  ·exact rhas_node hR w z0 g m gc n A c bs cs no z2 N h1 h2 z1 h hz ho hN
theorem refer_step{d:Nat}(hH:HasOK d):GD (d+1):=by
 intro w z1 g m gc n A c bs cs no z0 N z2 h hz ho hN;obtain⟨q,hq⟩:=DR (QJ bs (d+1) (no,z0) cs);rw[<-hq];obtain⟨B0,z4⟩:=h.cn;have hn:=h.len;have KA:=DJ z4 no (fun x hx=>by have:=ho.le x hx;omega);have kb:=Qa h.bx 1 rfl;have HH:=DY (DZ h (DZ hz (DZ ho (DZ z2 hN))));by_cases hr:0<=no/\no<(cs.length:Int)
 ·have hE:OT cs.length no=0:=by unfold OT;rw[if_neg (by omega)]
  have hL:Jd cs no=cs.set no.toNat (cs.getD no.toNat 0+1):=by unfold Jd;rw[if_pos hE]
  have z6:DK cs no=cs.getD no.toNat 0+1:=by unfold DK;rw[if_pos hE]
  have hk:no.toNat<cs.length:=by omega
  rw[hE,hL,z6] at KA;have zb:0<=cs.getD no.toNat 0:=by
   rw[D9,D1 hk];exact ho.1 _ (Nm hk)
  by_cases hzz:cs.getD no.toNat 0=0
  ·have HQ:=DY (show q=Ud bs (QJ bs d) no z0 (cs.set no.toNat (cs.getD no.toNat 0+1)) by rw[hq];unfold QJ;rw[if_pos hr,if_neg (by simpa using hzz)]);have ze:=UZ cs _ hk hzz;have z9:=ho.first hk hzz
   have HC:=DY (show∀w2,Cnt w2 B0 gc A c (cs.set no.toNat (cs.getD no.toNat 0+1))->w.grownBy w2 (Value.slice A n c).ownBlock->Calls prog 132 #[.pointer (some ⟨g,0,none⟩), .int .i64 no, .int .i64 z0] w2 (UN z1 g m gc n A c bs (Ud bs (QJ bs d) no z0 (cs.set no.toNat (cs.getD no.toNat 0+1))) w2) from fun w2 DU hg=>hH w2 z1 g m gc n A c bs _ no z0 (N+1-18) (Nat.le_trans z2 hg.size) (h.added DU (by simp[hn]) hg) (by omega) z9 (by omega))
   rw[hzz] at KA;generalize Ud bs (QJ bs d) no z0 (cs.set no.toNat (cs.getD no.toNat 0+1))=q2 at*;rw[hzz] at HC;rw[hn] at KA;clear hE hL z6 hk zb hzz ze z9 hr hq h hz ho z2 hN hn z4 hH;go_enter func77,ntmps77
   go_wp2_with fail
   refine KA.mono ?_;rintro e w2 ⟨rfl,DU,hg⟩;have K:=HC.out w2 DU hg;have HG:=DY hg;clear KA DU hg kb;go_wp2_with fail
   refine K.mono ?_;rintro e w3 z8;have HX:=DY (z8.from HG.out);rcases z8 with⟨z7,⟨cs',z5,rfl,zc⟩|⟨z5,v,rfl,hv⟩⟩
   ·clear K z7 z5 zc;go_wp2;go_ret;rw[HQ.out];exact HX.out
   ·obtain⟨t,x,rfl⟩:=hv.form;clear K z7 z5 hv;go_wp2;go_ret;rw[HQ.out];exact HX.out
  ·have HQ:=DY (show q=some (cs.set no.toNat (cs.getD no.toNat 0+1)) by rw[hq];unfold QJ;rw[if_pos hr,if_pos hzz]);have d1:decide (1<cs.getD no.toNat 0+1)=true:=decide_eq_true (by omega);have z3:(cs.set no.toNat (cs.getD no.toNat 0+1)).length=n:=by simp[hn]
   generalize cs.set no.toNat (cs.getD no.toNat 0+1)=cs2 at*;generalize cs.getD no.toNat 0+1=y at*;rw[hn] at KA;have zd:=DY z3;clear hE hL z6 hk zb hzz hr hq h hz ho z2 hN hn z4 hH z3;go_enter func77,ntmps77
   go_wp2_with fail
   refine KA.mono ?_;rintro e w2 ⟨rfl,DU,hg⟩;have HX:=DY (DZ DU hg);clear KA DU hg kb;go_wp2;go_ret;exact⟨HX.out.2, .inl ⟨cs2,HQ.out,rfl,HH.out.1.added HX.out.1 zd HX.out.2⟩⟩
 ·have hE:OT cs.length no=3:=by unfold OT;rw[if_pos (by omega)]
  have hL:Jd cs no=cs:=by unfold Jd;rw[hE,if_neg (by decide)]
  have HQ:=DY (show q=none by rw[hq];unfold QJ;rw[if_neg hr]);rw[hE,hL] at KA;rw[hn] at KA;have KT:=fun w2=>Xk 0 no (.iface 37 (.int .i64 3)) w2 (Qy.num _ _ _ _)
  generalize DK cs no=y at*;clear hE hL hr hq h hz ho z2 hN hn z4 hH;go_enter func77,ntmps77
  go_wp2_with fail
  refine KA.mono ?_;rintro e w2 ⟨rfl,DU,hg⟩;have HG:=DY hg;have K:=KT w2;clear KA DU hg kb KT;go_wp2_with fail
  refine K.mono ?_;rintro e w3 ⟨v,rfl,hv,za⟩;have HX:=DY (And.intro hv za);obtain⟨t,x,rfl⟩:=hv.form;clear K hv za;go_wp2;go_ret;exact⟨QC HG.out (Qz HX.out.2 _), .inr ⟨HQ.out,_,rfl,HX.out.1.up (by decide)⟩⟩
theorem refer_ok:∀d,GD d
 |0=>fun _ _ _ _ _ _ _ _ _ _ _ _ _ _ _ hz _ _=>absurd hz (Nat.not_lt_zero _)
 |d+1=>refer_step (rhas_any (refer_ok d))
end Go.Proofs.YtijcgllddnpmhaaGreatDoor
