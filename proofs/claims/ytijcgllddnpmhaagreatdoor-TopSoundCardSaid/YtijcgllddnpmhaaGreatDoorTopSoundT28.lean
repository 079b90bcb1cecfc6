/- TopSound: lemmas, part 28. -/
import Derived.Test.YtijcgllddnpmhaaGreatDoorTopSoundT27
import Derived.Test.YtijcgllddnpmhaaGreatDoorTopSoundT18
set_option maxRecDepth 100000
set_option maxHeartbeats 16000000
set_option linter.all false
namespace Go.Proofs.YtijcgllddnpmhaaGreatDoor
open Go.RowKit Go.Proofs.Tryz
theorem Jm(w:World)(base:Nat)(hb:base<=w.heap.size)(e:TypeId)(a b c:Value):(w.alloc (.cells #[a,b,c] e)).ownsRow base e 3 (.slice (some ⟨w.heap.size,0,none⟩) 1 1) 1 [a,b,c]:=
 ⟨rfl, .inr ⟨w.heap.size,1,#[a,b,c],rfl,hb,heap_alloc_new w _,Na _,by simp[maxLen],rfl,rfl⟩⟩
def OneDmg(w w':World)(v:Value):Prop:=∃(g:Nat) (a b c:Int),v= .slice (some ⟨g,0,none⟩) 1 1/\w'.ownsRow w.heap.size 79 3 (.slice (some ⟨g,0,none⟩) 1 1) 1 [.int .i64 a, .int .i64 b, .int .i64 c]
def GivesSD(q:Option (Nat->Int))(w:World)(e:Ending)(w':World):Prop:=
 ((∃s,q=some s/\e= .returned (.tuple #[.agg (QQ s), .slice none 0 0]))∨(q=none/\∃v,e= .returned (.tuple #[.agg Zb,v])/\OneDmg w w' v))/\Below w.heap.size w w'
theorem auSuper_any{w:World}{base m:Nat}{bs:List UInt8}(hi:ZH w base m bs)(hbs:base<=w.heap.size)(hT:XC w):
  Calls prog 136 #[.pointer (some ⟨m,0,none⟩)] w (GivesSD (QZ bs) w):=by
 obtain⟨w1,z9,z6,-⟩:=DS w (.cells #[.int .i64 0, .int .i64 0, .int .i64 0, .int .i64 0, .int .i64 0, .int .i64 0, .int .i64 0, .int .i64 0, .int .i64 0, .int .i64 0, .int .i64 0] 65);have zf:w1.heap[w.heap.size]?=some (.cells Zb 65):=by rw[z9];exact heap_alloc_new w _
 have KS:=Kz (hi.below (z6.mono hbs));have zg:=DY z6;have zi:=DY zf;have zm:=DY (hT.below z6);have z2:(prog.info? 65).map (·.size)=some Zb.size:=ZJ fun _=>0
 have z1:∀v∈Zb.toList,v.oneCell'=true:=ZP fun _=>0
 clear z6 zf hi hbs hT;generalize QZ bs=q at*;go_enter func136,ntmps136
 go_upto_region 1 with fail
 rw[<-z9];clear z9;go_wp2_with fail
 refine KS.mono ?_;rintro e w2 ⟨⟨s,hq,rfl⟩|⟨hq,v,rfl,hv⟩,z3⟩
 ·have HQ:=DY hq;have hA:=heap_alloc_new w2 (.cells Zb 65);have z7:=ZJ s;have z4:=ZP s;have zj:Hid (Zb.size=(QQ s).size):=rfl;generalize hC:QQ s=C at*;have zl:=DY hC;have zc:=DY (Qb zg z3);have za:=DY (Qe zi z3);clear KS hq hC z3;go_upto_region 2 with(refine Ql rfl 65 _ _ rfl w2.heap.size C rfl rfl Zb 65 hA zj.out z7 z4 ?_;intro w3 h3 z5 zb)
  have z0:Below w2.heap.size w2 w3:=(Qd w2 _).grown z5 (Qd w2 _).size (fun k hk=>by cases hk;exact Na _);have z8:=DY (Qb zc z0);have zp:=Qe za z0;clear z0 z5 zb hA;go_wp2_with (first|(refine wpList_load_row rfl 65 _ rfl w2.heap.size rfl 65 _ _ _ h3 underlying65 rfl z7 ?_)|(refine Ql rfl 65 _ _ rfl w.heap.size C rfl rfl Zb 65 zp zj.out z7 z4 ?_;intro w4 h4 zq hs4))
  refine bodyPost_ret (v:= .tuple #[.agg C, .slice none 0 0]) (Qw (p:=2) (u:=3) rfl _ _ w.heap.size 65 C _ _ rfl h4 underlying65 rfl z7) rfl ?_;exact⟨.inl ⟨s,HQ.out,by rw[zl.out]⟩,z8.out.grown zq z8.out.size (fun k hk=>by cases hk;exact Na _)⟩
 ·have HQ:=DY hq;have hA:=heap_alloc_new w2 (.cells Zb 65);have zc:=DY (Qb zg z3);have za:=DY (Qe zi z3);have zn:=DY (zm.out.below z3);have HV:=DY hv;obtain⟨vt,vx,rfl⟩:=hv.form;clear KS hq hv z3;go_upto_region 2 with(refine Ql rfl 65 _ _ rfl w2.heap.size Zb rfl rfl Zb 65 hA rfl z2 z1 ?_;intro w3 h3 z5 zb)
  have z0:Below w2.heap.size w2 w3:=(Qd w2 _).grown z5 (Qd w2 _).size (fun k hk=>by cases hk;exact Na _);have z8:=DY (Qb zc z0);have zo:=DY (Qe za z0);have KO:=R4 1 (.iface vt vx) w3 1 (by decide) (HV.out.ext z0) (zn.out.below z0);clear z0 z5 zb hA h3;go_wp2_with fail
  refine KO.mono ?_;rintro e w4 ⟨a,c,rfl,zd⟩;have ze:=DY (Qb z8 zd);have zk:=Qe (Qe zo zd) (Qd w4 (.cells #[.int .i64 1, .int .i64 a, .int .i64 c] 79));clear KO zd;go_wp2_with (refine Ql rfl 65 _ _ rfl w.heap.size Zb rfl rfl Zb 65 zk rfl z2 z1 ?_;intro w5 h5 zh hs5)
  refine bodyPost_ret (v:= .tuple #[.agg Zb, .slice (some ⟨w4.heap.size,0,none⟩) 1 1]) (Qw (p:=2) (u:=3) rfl _ _ w.heap.size 65 Zb _ _ rfl h5 underlying65 rfl z2) rfl ?_;have ho:=Jm w4 w.heap.size ze.out.size 79 (.int .i64 1) (.int .i64 a) (.int .i64 c);exact⟨.inr ⟨HQ.out,_,rfl,w4.heap.size,1,a,c,rfl,ho.kept zh (.inr (Qi zk (by decide) ho).symm)⟩,(Qb ze.out (Qd w4 _)).grown zh (D3 ze.out.size (Qd w4 _).size) (fun k hk=>by cases hk;exact Nat.le_refl _)⟩
def GivesLD(q:Option (List Int))(w:World)(e:Ending)(w':World):Prop:=
 ((∃l A c,q=some l/\e= .returned (.tuple #[.slice A l.length c, .slice none 0 0])/\l.length<=c/\w'.ownsRow w.heap.size 3 1 (.slice A l.length c) l.length (iv l))∨(q=none/\∃v,e= .returned (.tuple #[.slice none 0 0,v])/\OneDmg w w' v))/\Below w.heap.size w w'
theorem auData_any{w:World}{base m:Nat}{bs:List UInt8}(hi:ZH w base m bs)(hbs:base<=w.heap.size)(hT:XC w)(s:Nat->Int)(hs:okS s 11=true)(fuel:Int)(hfu:fuel<=1000000):
  Calls prog 140 #[.pointer (some ⟨m,0,none⟩), .agg (QQ s), .int .i64 fuel] w (GivesLD (Xu bs (s 7) (s 8) (s 3) fuel) w):=by
 have z1:QQ s=#[.int .i64 (s 0), .int .i64 (s 1), .int .i64 (s 2), .int .i64 (s 3), .int .i64 (s 4), .int .i64 (s 5), .int .i64 (s 6), .int .i64 (s 7), .int .i64 (s 8), .int .i64 (s 9), .int .i64 (s 10)]:=rfl;rw[z1];have z4:=VA hs;obtain⟨w1,z7,z2,z3⟩:=DS w (.cells #[.int .i64 (s 0), .int .i64 (s 1), .int .i64 (s 2), .int .i64 (s 3), .int .i64 (s 4), .int .i64 (s 5), .int .i64 (s 6), .int .i64 (s 7), .int .i64 (s 8), .int .i64 (s 9), .int .i64 (s 10)] 65);have KC:=UX (hi.below (z2.mono hbs)) (D3 hbs z2.size) (s 7) (s 8) (s 3) fuel hfu (by omega) (by omega);have z5:=DY z2;have za:=DY (hT.below z2);have c1:=Qa z3 7 rfl;have c2:=Qa z3 8 rfl;have c3:=Qa z3 3 rfl;clear z2 z3 hi hbs hT hs z4 z1 hfu;generalize Xu bs (s 7) (s 8) (s 3) fuel=q at*;generalize s 0=x0 at*;generalize s 1=x1 at*;generalize s 2=x2 at*;generalize s 3=x3 at*;generalize s 4=x4 at*;generalize s 5=x5 at*;generalize s 6=x6 at*;generalize s 7=x7 at*;generalize s 8=x8 at*;generalize s 9=x9 at*;generalize s 10=x10 at*;go_enter func140,ntmps140
 go_upto_region 1 with fail
 rw[show w.alloc (.cells #[.int .i64 x0, .int .i64 x1, .int .i64 x2, .int .i64 x3, .int .i64 x4, .int .i64 x5, .int .i64 x6, .int .i64 x7, .int .i64 x8, .int .i64 x9, .int .i64 x10] 65)=w1 from z7.symm]
 clear z7;go_wp2_with fail
 refine KC.mono ?_;rintro e w2 ⟨⟨L,A,n,c,hL,rfl,hl,hc,ho⟩|⟨hL,v,rfl,hv⟩,z0⟩
 ·obtain⟨l,z8,rfl⟩:∃l,q=some l/\L=iv l:=by
   cases q with
   |none=>cases hL
   |some x=>cases hL;exact⟨x,rfl,rfl⟩
  have hn:n=l.length:=by simpa[iv] using hl.symm
  subst hn;have HX:=DY (And.intro z8 (DZ hc (DZ (Q7 ho z5.out.size) (Qb z5 z0))));clear KC hL hl hc ho z0 z8 c1 c2 c3;go_wp2;go_ret2
  exact⟨.inl ⟨l,A,c,HX.out.1,rfl,HX.out.2.1,HX.out.2.2.1⟩,HX.out.2.2.2⟩
 ·have HS:=DY (show q=none by cases q with
   |none=>rfl
   |some x=>cases hL)
  have zb:=DY (Qb z5 z0);have KO:=R4 5 v w2 41 (by decide) hv (za.out.below z0);obtain⟨vt,vx,rfl⟩:=hv.form;clear KC hL hv z0 c1 c2 c3;go_wp2_with fail
  refine KO.mono ?_;rintro e w4 ⟨a,c,rfl,z6⟩;have z9:=DY (Qb zb z6);clear KO z6;go_wp2;go_ret2
  exact⟨.inr ⟨HS.out,_,rfl,w4.heap.size,5,a,c,rfl,Jm w4 w.heap.size z9.out.size 79 _ _ _⟩,Qb z9 (Qd w4 _)⟩
theorem auMeta_any{w:World}{base m:Nat}{bs:List UInt8}(hi:ZH w base m bs)(hbs:base<=w.heap.size)(hT:XC w)(s:Nat->Int)(hs:okS s 11=true)(fuel:Int)(hfu:fuel<=1000000):
  Calls prog 142 #[.pointer (some ⟨m,0,none⟩), .agg (QQ s), .int .i64 fuel] w (GivesLD (X3 bs (s 9) (s 10) (s 4) fuel) w):=by
 have z1:QQ s=#[.int .i64 (s 0), .int .i64 (s 1), .int .i64 (s 2), .int .i64 (s 3), .int .i64 (s 4), .int .i64 (s 5), .int .i64 (s 6), .int .i64 (s 7), .int .i64 (s 8), .int .i64 (s 9), .int .i64 (s 10)]:=rfl;rw[z1];have z4:=VA hs;obtain⟨w1,z7,z2,z3⟩:=DS w (.cells #[.int .i64 (s 0), .int .i64 (s 1), .int .i64 (s 2), .int .i64 (s 3), .int .i64 (s 4), .int .i64 (s 5), .int .i64 (s 6), .int .i64 (s 7), .int .i64 (s 8), .int .i64 (s 9), .int .i64 (s 10)] 65);have KC:=UW (hi.below (z2.mono hbs)) (D3 hbs z2.size) (s 9) (s 10) (s 4) fuel hfu (by omega) (by omega);have z5:=DY z2;have za:=DY (hT.below z2);have c1:=Qa z3 9 rfl;have c2:=Qa z3 10 rfl;have c3:=Qa z3 4 rfl;clear z2 z3 hi hbs hT hs z4 z1 hfu;generalize X3 bs (s 9) (s 10) (s 4) fuel=q at*;generalize s 0=x0 at*;generalize s 1=x1 at*;generalize s 2=x2 at*;generalize s 3=x3 at*;generalize s 4=x4 at*;generalize s 5=x5 at*;generalize s 6=x6 at*;generalize s 7=x7 at*;generalize s 8=x8 at*;generalize s 9=x9 at*;generalize s 10=x10 at*;go_enter func142,ntmps142
 go_upto_region 1 with fail
 rw[show w.alloc (.cells #[.int .i64 x0, .int .i64 x1, .int .i64 x2, .int .i64 x3, .int .i64 x4, .int .i64 x5, .int .i64 x6, .int .i64 x7, .int .i64 x8, .int .i64 x9, .int .i64 x10] 65)=w1 from z7.symm]
 clear z7;go_wp2_with fail
 refine KC.mono ?_;rintro e w2 ⟨⟨L,A,n,c,hL,rfl,hl,hc,ho⟩|⟨hL,v,rfl,hv⟩,z0⟩
 ·obtain⟨l,z8,rfl⟩:∃l,q=some l/\L=iv l:=by
   cases q with
   |none=>cases hL
   |some x=>cases hL;exact⟨x,rfl,rfl⟩
  have hn:n=l.length:=by simpa[iv] using hl.symm
  subst hn;have HX:=DY (And.intro z8 (DZ hc (DZ (Q7 ho z5.out.size) (Qb z5 z0))));clear KC hL hl hc ho z0 z8 c1 c2 c3;go_wp2;go_ret2
  exact⟨.inl ⟨l,A,c,HX.out.1,rfl,HX.out.2.1,HX.out.2.2.1⟩,HX.out.2.2.2⟩
 ·have HS:=DY (show q=none by cases q with
   |none=>rfl
   |some x=>cases hL)
  have zb:=DY (Qb z5 z0);have KO:=R4 7 v w2 41 (by decide) hv (za.out.below z0);obtain⟨vt,vx,rfl⟩:=hv.form;clear KC hL hv z0 c1 c2 c3;go_wp2_with fail
  refine KO.mono ?_;rintro e w4 ⟨a,c,rfl,z6⟩;have z9:=DY (Qb zb z6);clear KO z6;go_wp2;go_ret2
  exact⟨.inr ⟨HS.out,_,rfl,w4.heap.size,7,a,c,rfl,Jm w4 w.heap.size z9.out.size 79 _ _ _⟩,Qb z9 (Qd w4 _)⟩
section
open Go.RowKit Go.Shelf
theorem Tryz.infoDevL:(prog.info? 49).map (fun i=>(i.zero,i.size,i.bytes))=some (some (.agg #[.int .i64 0, .int .i64 0, .int .i64 0, .int .i64 0, .slice none 0 0]),5,56):=by kernel_rfl
theorem Ef{A B:World}{b1 b2 base e size n:Nat}{v:Value}{xs:List Value}(h:A.ownsRow base e size v n xs)(hw:QS b1 b2 A B)(h1:b1<base)(h2:b2<base):B.ownsRow base e size v n xs:=by
 refine⟨h.1,?_⟩;rcases h.2 with hn|⟨g,z2,z1,hv,hg,z0,r⟩
 ·exact .inl hn
 ·exact .inr ⟨g,z2,z1,hv,hg,(hw.block g (D0.1 z0).1 (by omega) (by omega)).trans z0,r⟩
theorem Qt.turns{A B:World}{b1 b2 base:Nat}{v:Value}{ls:List Q4}(h:Qt A base v ls)(hw:QS b1 b2 A B)(h1:b1<base)(h2:b2<base):Qt B base v ls:=by
 obtain⟨us,e,h3,h4⟩:=h;exact⟨us,e,Ef h3 hw h1 h2,fun x u hx=>Ef (h4 x u hx) hw h1 h2⟩
theorem Qt.turned{W:World}{base l:Nat}{v:Value}{ls:List Q4}{o o':Obj}(h:Qt W base v ls)(hl:W.heap[l]?=some o)(ho:o.isCells=false):Qt (W.putObj l o') base v ls:=by
 obtain⟨us,e,h3,h4⟩:=h;exact⟨us,e,ownsRow_putObj h3 o' hl ho,fun x u hx=>ownsRow_putObj (h4 x u hx) o' hl ho⟩
theorem Qt.row{W:World}{base:Nat}{v:Value}{ls:List Q4}(h:Qt W base v ls):∃xs,W.ownsRow base 49 5 v ls.length xs/\
  ∀(d:Q4) (uj u':Value) (W':World),W.ownsRow base 52 3 uj d.maps.length (mv d.maps)->W'.ownsRow base 49 5 u' (ls.length+1) (xs++[.int .i64 d.id, .int .i64 d.tx, .int .i64 d.made, .int .i64 d.snapped,uj])->W.grownBy W' v.ownBlock->Qt W' base u' (ls++[d]):=by
 obtain⟨us,e,h3,h4⟩:=h;refine⟨dv us,h3,fun d uj u' W' hm hr hg=>⟨us++[(d,uj)],by rw[Ns,e];rfl,?_,?_⟩⟩
 ·rw[dv_append,D7];exact hr
 ·intro x u hx;have hk:∀{x:Q4} {u:Value},W.ownsRow base 52 3 u x.maps.length (mv x.maps)->W'.ownsRow base 52 3 u x.maps.length (mv x.maps):=fun hu=>hu.kept hg (Zk hu h3 (by decide))
  rcases NY.1 hx with hx|hx
  ·exact hk (h4 x u hx)
  ·obtain⟨rfl,rfl⟩:x=d/\u=uj:=by simpa using hx
   exact hk hm
def DvU(base g m:Nat)(data fuel sum:Int)(q:Option Q4)(w':World)(x0 x1 x2 x3:Int)(A:Option Addr)(n c:Nat)(v:Value):Prop:=
 (∃d,q=some d/\v= .nilIface/\d.id=x0/\d.tx=x1/\d.made=x2/\d.snapped=x3/\d.maps.length=n/\w'.ownsRow base 52 3 (.slice A n c) n (mv d.maps)/\VR w' g m data fuel (sum+n))∨(q=none/\Qy 42 w' w'.heap.size v)
theorem dvU_any{g m:Nat}{data fuel sum:Int}{q:Option Q4}{w:World}{e:Ending}{w':World}(h:GivesDv g m data fuel sum q w e w'):
  ∃x0 x1 x2 x3 A n c v,e= .returned (.tuple #[.agg #[.int .i64 x0, .int .i64 x1, .int .i64 x2, .int .i64 x3, .slice A n c],v])/\DvU w.heap.size g m data fuel sum q w' x0 x1 x2 x3 A n c v/\w.grownBy w' (some g):=by
 obtain⟨hg,⟨d,A,c,hq,rfl,hr,hl,-⟩|⟨hq,v,rfl,hv⟩⟩:=h
 ·exact⟨d.id,d.tx,d.made,d.snapped,A,d.maps.length,c, .nilIface,rfl, .inl ⟨d,hq,rfl,rfl,rfl,rfl,rfl,rfl,hr,hl⟩,hg⟩
 ·exact⟨0,0,0,0,none,0,0,v,rfl, .inr ⟨hq,hv⟩,hg⟩
section
variable {base g m:Nat} {data fuel sum:Int} {q:Option Q4} {w' w'':World} {x0 x1 x2 x3:Int} {A:Option Addr} {n c:Nat} {v:Value}
theorem DvU.form(h:DvU base g m data fuel sum q w' x0 x1 x2 x3 A n c v):v= .nilIface∨∃t x,v= .iface t x:=by
 rcases h with⟨d,-,hv,-⟩|⟨-,hv⟩
 ·exact .inl hv
 ·exact .inr hv.form
theorem DvU.keep(h:DvU base g m data fuel sum q w' x0 x1 x2 x3 A n c v)(hb:Below w'.heap.size w' w''):DvU base g m data fuel sum q w'' x0 x1 x2 x3 A n c v:=by
 rcases h with⟨d,h1,h2,h3,h4,h5,h6,h7,h8,h9⟩|⟨h1,h2⟩
 ·exact .inl ⟨d,h1,h2,h3,h4,h5,h6,h7,Qk h8 hb,Qe h9 hb⟩
 ·exact .inr ⟨h1,h2.ext hb⟩
theorem DvU.grown{r:Nat}{cs:Array Value}{t:TypeId}{fz:Nat×Nat}(h:DvU base g m data fuel sum q w' x0 x1 x2 x3 A n c v)(hr:w'.heap[r]?=some (.cells cs t fz))(h1:t≠52)(h2:t≠179)(h3:t≠245)(hg:w'.grownBy w'' (some r)):DvU base g m data fuel sum q w'' x0 x1 x2 x3 A n c v:=by
 rcases h with⟨d,a1,a2,a3,a4,a5,a6,a7,a8,a9⟩|⟨a1,a2⟩
 ·refine .inl ⟨d,a1,a2,a3,a4,a5,a6,a7,a8.kept hg (.inr (Qi hr h1 a8).symm),?_⟩;have a9':w'.heap[g]?=some (.cells #[.pointer (some ⟨m,0,none⟩), .int .i64 data, .int .i64 fuel, .int .i64 (sum+n)] 245):=a9;exact(hg.block g (Array.getElem?_eq_some_iff.1 a9').1 (fun e=>by
   obtain rfl:=Nd e;rw[hr] at a9'
   injection a9' with e
   injection e with e1 e2
   exact h3 e2)).trans a9'
 ·exact .inr ⟨a1,(a2.grown hr h2 hg).more hg.size⟩
end
theorem next_both{D T:List Qv}(he:Qp D=Qp T){pre:List (Option Nat×Option Nat)}{x:Option Nat×Option Nat}(h:∃r,Q8 D T (D.length+T.length) 0 0=(pre++[x])++r):x=(some pre.length,some pre.length)/\pre.length<D.length/\pre.length<T.length:=by
 have hl:D.length=T.length:=by simpa[Qp] using congrArg List.length he
 obtain⟨r,hr⟩:=h;rw[Jk D T _ 0 he (by omega)] at hr;have h1:((pre++[x])++r)[pre.length]?=some x:=by simp
 rw[<-hr,Lx] at h1;cases h2:(List.range (D.length-0))[pre.length]? with
 |none=>rw[h2] at h1;cases h1
 |some i=>
  rw[h2] at h1;obtain⟨h3,h4⟩:=NG.1 h2;rw[LN] at h3;rw[List.getElem_range] at h4;subst h4;cases h1;simp only[ND];exact⟨trivial,by omega,by omega⟩
theorem all_both{D T:List Qv}(he:Qp D=Qp T):(Q8 D T (D.length+T.length) 0 0).length=D.length:=by
 rw[Jk D T _ 0 he (by omega)];simp
theorem devs_drop{bs:List UInt8}{data fuel:Int}{Z:List (Qv×Qv)}{k sum:Nat}{ls:List Q4}(h:k<Z.length):
  (ZU bs data fuel sum (Z.drop k)).map (fun r=>ls++r)=(Js bs data fuel sum Z[k].1 Z[k].2).bind fun x=>(ZU bs data fuel (sum+x.maps.length) (Z.drop (k+1))).map fun r=>(ls++[x])++r:=by
 rw[NO h];obtain⟨d,t⟩:=Z[k];generalize Z.drop (k+1)=R;rw[show ZU bs data fuel sum ((d,t)::R)=(Xz bs data fuel d t).bind fun x=>if sum+x.maps.length<=16384 then(ZU bs data fuel (sum+x.maps.length) R).map fun l=>x::l else none by rw[ZU]]
 unfold Js;dsimp only;cases Xz bs data fuel d t with
 |none=>rfl
 |some x=>
  simp only[Option.bind_some];by_cases hs:sum+x.maps.length<=16384
  ·have z0:(sum:Int)+(x.maps.length:Int)<=16384:=by omega
   rw[if_pos hs,if_pos z0,Option.bind_some];cases ZU bs data fuel (sum+x.maps.length) R with
   |none=>rfl
   |some r=>simp
  ·have z0:¬(sum:Int)+(x.maps.length:Int)<=16384:=by omega
   rw[if_neg hs,if_neg z0]
   rfl
def DvI(q:Option (List Q4))(bs:List UInt8)(data fuel:Int)(m:Nat)(Z:List (Qv×Qv))(W:World)(base k:Nat)(V:World):Prop:=
 ∃(ls:List Q4) (sum:Nat) (u:Value),ls.length=k/\sum<=16384/\q=(ZU bs data fuel sum (Z.drop k)).map (fun r=>ls++r)/\Below W.heap.size W V/\V.heap[W.heap.size+1]?=some (.cells #[.pointer (some ⟨W.heap.size,0,none⟩)] 243)/\
  V.heap[W.heap.size+2]?=some (.cells #[u] 26)/\Qt V base u ls/\VR V W.heap.size m data fuel sum/\base<=V.heap.size
section
variable {q:Option (List Q4)} {bs:List UInt8} {data fuel:Int} {m:Nat} {Z:List (Qv×Qv)} {W:World} {base k:Nat} {V V':World}
theorem DvI.turned{l:Nat}{o o':Obj}(h:DvI q bs data fuel m Z W base k V)(hl:V.heap[l]?=some o)(ho:o.isCells=false)(hw:W.heap.size<=l):DvI q bs data fuel m Z W base k (V.putObj l o'):=by
 obtain⟨ls,z0,u,h1,h2,h3,h4,h5,h6,h7,h8,h9⟩:=h;have hk:∀{b:Nat} {cs:Array Value} {t:TypeId} {fz:Nat×Nat},V.heap[b]?=some (.cells cs t fz)->(V.putObj l o').heap[b]?=some (.cells cs t fz):=fun{b cs t fz} hb=>
  (World.putObj_heap_other (fun e=>by subst e;rw[hb] at hl;cases hl;cases ho)).trans hb
 exact⟨ls,z0,u,h1,h2,h3,h4.trans ((D6 _ V).grown (grownBy_putObj' V l o') h4.size (fun k e=>by cases e;omega)),hk h5,hk h6,h7.turned hl ho,hk h8,by simpa[World.putObj] using h9⟩
theorem DvI.turns{b1 b2:Nat}(h:DvI q bs data fuel m Z W base k V)(hw:QS b1 b2 V V')(h1:W.heap.size+2<b1)(h2:W.heap.size+2<b2)(h3:b1<base)(h4:b2<base):DvI q bs data fuel m Z W base k V':=by
 obtain⟨ls,z0,u,a1,a2,a3,a4,a5,a6,a7,a8,a9⟩:=h;have hk:∀{b:Nat} {cs:Array Value} {t:TypeId} {fz:Nat×Nat},b<=W.heap.size+2->V.heap[b]?=some (.cells cs t fz)->V'.heap[b]?=some (.cells cs t fz):=fun hle hb=>
  (hw.block _ (D0.1 hb).1 (by omega) (by omega)).trans hb
 exact⟨ls,z0,u,a1,a2,a3,XA a4 hw (by omega) (by omega) (Na _),hk (by omega) a5,hk (by omega) a6,a7.turns hw h3 h4,hk (by omega) a8,D3 a9 hw.size⟩
theorem DvI.keep(h:DvI q bs data fuel m Z W base k V)(hb:Below V.heap.size V V'):DvI q bs data fuel m Z W base k V':=by
 obtain⟨ls,z0,u,a1,a2,a3,a4,a5,a6,a7,a8,a9⟩:=h;exact⟨ls,z0,u,a1,a2,a3,Qb a4 hb,Qe a5 hb,Qe a6 hb,a7.keep hb,Qe a8 hb,D3 a9 hb.size⟩
end
end
end Go.Proofs.YtijcgllddnpmhaaGreatDoor
