/- TopSound: lemmas, part 29. -/
import Derived.Test.YtijcgllddnpmhaaGreatDoorTopSoundT28
set_option maxRecDepth 100000
set_option maxHeartbeats 16000000
set_option linter.all false
namespace Go.Proofs.YtijcgllddnpmhaaGreatDoor
open Go.RowKit Go.Proofs.Tryz
structure DQ(g:Nat)(v:Value)(w w':World):Prop where
 os:w'.os=w.os
 tape:w'.tape=w.tape
 output:w'.output=w.output
 size:w.heap.size<=w'.heap.size
 block:∀k,k<w.heap.size->k≠g->some k≠v.ownBlock->w'.heap[k]?=w.heap[k]?
theorem DQ.below{g base n₀ n s:Nat}{e:TypeId}{v:Value}{xs:List Value}{w w':World}(h:DQ g v w w')(ho:w.ownsRow base e s v n xs)(h1:n₀<=g)(h2:n₀<=base)(h3:n₀<=w.heap.size):Below n₀ w w':=
 ⟨h.os,h.tape,h.output,h.size,fun k hk=>h.block k (Nh hk h3) (by omega) (fun e=>by have:=(ho.lt k e.symm).1;omega)⟩
theorem DQ.row{g base n s b:Nat}{e t:TypeId}{v:Value}{xs:List Value}{w w':World}{cs:Array Value}{fz:Nat×Nat}(h:DQ g v w w')(ho:w.ownsRow base e s v n xs)(hb:w.heap[b]?=some (.cells cs t fz))(hg:b≠g)(ht:t≠e):w'.heap[b]?=some (.cells cs t fz):=
 (h.block b (Array.getElem?_eq_some_iff.1 hb).1 hg (Qi hb ht ho)).trans hb
theorem DQ.own{g base n s base2 n2 s2:Nat}{e t e2:TypeId}{v u:Value}{xs ys:List Value}{w w':World}{cs:Array Value}{fz:Nat×Nat}(h:DQ g v w w')(ho:w.ownsRow base e s v n xs)(hg:w.heap[g]?=some (.cells cs t fz))(h1:t≠e2)(h2:e2≠e)(hu:w.ownsRow base2 e2 s2 u n2 ys):w'.ownsRow base2 e2 s2 u n2 ys:=by
 refine⟨hu.1,?_⟩;rcases hu.2 with hn|⟨g2,z2,z1,hv,hb,z0,r⟩
 ·exact .inl hn
 ·exact .inr ⟨g2,z2,z1,hv,hb,h.row ho z0 (fun e=>by subst e;rw[hg] at z0;cases z0;exact h1 rfl) h2,r⟩
theorem tv_snoc(dl:List S3)(a b c:Int):tv (dl++[(a,b,c)])=tv dl++[.int .i64 a, .int .i64 b, .int .i64 c]:=by rw[OY];rfl
theorem UF(g:Nat)(kind at_:Int)(w:World):Calls prog 204 #[.pointer (some ⟨g,0,none⟩), .int .i64 kind, .int .i64 at_, .int .i64 0] w fun e w'=>e= .returned (.bool false)/\w=w':=by
 go_enter func204,ntmps204
 go_wp2;go_ret;exact⟨rfl,rfl⟩
theorem E2{w:World}{g base:Nat}{cs:Array Value}{t:TypeId}{v:Value}{dl:List S3}(hr:w.heap[g]?=some (.cells cs t (0,0)))(ht:t≠79)(h0:cs[0]?=some v)(hown:w.ownsRow base 79 3 v dl.length (tv dl))(hbs:base<=w.heap.size)(hn:dl.length<=5000000000000)(kind at_ er:Int)(he:er≠0):
  Calls prog 204 #[.pointer (some ⟨g,0,none⟩), .int .i64 kind, .int .i64 at_, .int .i64 er] w fun e w'=>e= .returned (.bool true)/\∃A c,w'.heap[g]?=some (.cells (cs.setIfInBounds 0 (.slice A (dl.length+1) c)) t (0,0))/\
   w'.ownsRow base 79 3 (.slice A (dl.length+1) c) (dl.length+1) (tv (dl++[(kind,at_,er)]))/\DQ g v w w':=by
 obtain⟨js,zc,za,zb,z9⟩:=info_parts Tryz.infoDmg;have d1:(er==0)=false:=by rw[beq_eq_false_iff_ne];exact he
 have HR:=DY hr;have HO:=DY hown;have c0:=Qa hr 0 h0;have f0:=Qf hr 0;have z6:=(D0.1 hr).1;obtain⟨A0,C0,rfl⟩:=QI hown;have z3:=hown.alloc (.cells #[.int .i64 kind, .int .i64 at_, .int .i64 er] 79);have ze:base<=(w.alloc (.cells #[.int .i64 kind, .int .i64 at_, .int .i64 er] 79)).heap.size:=D3 hbs (Qd w _).size;have H0:=DY h0;have HF:=DY (show∀w7,(w.alloc (.cells #[.int .i64 kind, .int .i64 at_, .int .i64 er] 79)).grownBy w7 (Value.slice A0 dl.length C0).ownBlock->w7.heap[g]?=some (.cells cs t (0,0)) from fun w7 z2=>(z2.block g (Nh z6 (Qd w _).size) (Qi (Qj hr _) ht z3)).trans (Qj hr _))
 have HT:=DY ht;have HGL:=DY z6;have HB:=DY hbs;clear hr hown he h0 ht z6 hbs;go_enter func204,ntmps204
 go_wp2_with (at_builtin;refine Qq _ rfl (.tmp 15) (.tmp 20) _ rfl base 3 79 js _ 24 underlying74 zc za zb z9 rfl (by decide) _ dl.length (tv dl) rfl z3 _ _ 1 1 [.int .i64 kind, .int .i64 at_, .int .i64 er] rfl rfl (Qh.new w [.int .i64 kind, .int .i64 at_, .int .i64 er] 79 (0,0)) (by simp[Value.oneCell']) (by simp only[maxLen];omega) (by omega) ze ?_;intro A7 c7 w7 z1 z2 z7 _;have z4:=HF.out w7 z2;have z0:=Qf z4 0;have c7':=Qa z4 0 H0.out;have zd:=DY (DZ z1 (And.intro z2 z4));clear z1 z2 z7 z4)
 go_ret;obtain⟨z1,z2,z4⟩:=zd.out;have z5:=Qo w7 g 0 (.slice A7 (dl.length+1) c7);refine⟨rfl,A7,c7,heap_setCell_same w7 g 0 _ _ _ z4,?_,⟨?_,?_,?_,?_,?_⟩⟩
 ·rw[tv_snoc];exact z1.kept z5 (.inr (Qi z4 HT z1).symm)
 ·exact z5.os.trans z2.os
 ·exact z5.tape.trans z2.tape
 ·exact z5.output.trans z2.output
 ·exact D3 (Qd w _).size (D3 z2.size z5.size)
 ·intro k hk zf z8;have h1:=(Qd w (.cells #[.int .i64 kind, .int .i64 at_, .int .i64 er] 79)).size;exact(z5.block k (Nat.lt_of_lt_of_le hk (D3 h1 z2.size)) (fun e=>zf (Nd e))).trans ((z2.block k (Nh hk h1) z8).trans ((Qd w _).block k hk))
def DM(w w':World)(n:Nat)(v:Value):Prop:=∃(dl:List S3) (A:Option Addr) (c:Nat),dl.length=n/\v= .slice A n c/\w'.ownsRow w.heap.size 79 3 (.slice A n c) n (tv dl)
theorem OS(kind:Int)(A:Option Addr)(c:Nat)(a:List Int)(A2:Option Addr)(c2:Nat)(b:List Int)(w:World)(hm:a.length<=200000)(hm2:b.length<=200000)(h:Qh w w.heap.size A (iv a))(h2:Qh w w.heap.size A2 (iv b)):
  Calls prog 144 #[.int .i64 kind, .slice A a.length c, .slice A2 b.length c2] w fun e w'=>∃v,e= .returned v/\DM w w' (Zl a b).length v/\Below w.heap.size w w':=by
 obtain⟨w1,z5,z2,z4⟩:=DS w (.cells #[.slice none 0 0] 347);have KD:=Ob A c a A2 c2 b w1 hm hm2 (h.ext z2) (h2.ext z2);have z6:=DY (show(Zl a b).length<=200000 from D3 (Rn a b _) (by omega));have z8:=DY z2;have z9:=DY z4;clear z2 z4 h h2 hm hm2;generalize Zl a b=l at*;go_enter func144,ntmps144
 go_upto_region 2 with fail
 rw[<-z5];clear z5;go_wp2_with fail
 refine KD.mono ?_;rintro e w2 ⟨A3,c3,rfl,z0,z1⟩;rw[QK] at z0 ⊢;have za:=DY (Qb z8 z1);have zb:=DY (Qe z9 z1);have z7:=DY z0;have HSZ:=DY z1.size;clear KD z0 z1;have hle:l.length<=200000:=z6.out;go_wp2_with fail
 go_loopw [14] (fun i wr=>∃(k:Nat) (dl:List S3) (v:Value),k<=l.length/\i= .int .i64 k/\Hid (dl.length=k/\wr.heap[w.heap.size]?=some (.cells #[v] 347)/\wr.ownsRow w.heap.size 79 3 v dl.length (tv dl)/\Below w.heap.size w wr/\wr.ownsRow w1.heap.size 3 1 (.slice A3 l.length c3) l.length (iv l))) (fun i _=>l.length-(intOf i).toNat)
 case atStart=>exact⟨0,[],_,by omega,rfl,DY ⟨rfl,zb.out,Nb _ _ _ _,za.out,z7.out⟩⟩
 case round=>
  obtain⟨k,dl,v,hk,rfl,HH⟩:=hrel;by_cases hlt:k<l.length
  ·obtain⟨ad,rfl,hlt',hc⟩:=(Qh.of_own HH.out.2.2.2.2).num hlt;have KA:=E2 (base:=w.heap.size) HH.out.2.1 (by decide) rfl HH.out.2.2.1 HH.out.2.2.2.1.size (by have:=z6.out;have:=HH.out.1;omega) kind l[k] 13 (by decide);generalize l[k]=y at*;clear hlt';go_wp2_with fail
   refine KA.mono ?_;rintro e w3 ⟨rfl,A7,c7,h1,h2,h3⟩;have HX:=DY (DZ h1 (DZ h2 h3));clear KA h1 h2 h3 hc;go_wp2;go_roundw
   case rel=>
    obtain⟨h1,h2,h3⟩:=HX.out;refine⟨k+1,dl++[(kind,y,13)],_,by omega,by go_num,Lib.hid ⟨by rw[D7,HH.out.1];rfl,h1,by rw[D7];exact h2,HH.out.2.2.2.1.trans (h3.below HH.out.2.2.1 (Na _) (Na _) HH.out.2.2.2.1.size),h3.own HH.out.2.2.1 HH.out.2.1 (by decide) (by decide) HH.out.2.2.2.2⟩⟩
   case measure=>simp[intOf];omega
  ·obtain rfl:k=l.length:=by omega
   obtain⟨A9,C9,z3⟩:=QI HH.out.2.2.1;have c0:=Qa HH.out.2.1 0 rfl;have HF:=DY (show DM w wr l.length v from⟨dl,A9,C9,HH.out.1,by rw[z3,HH.out.1],by have:=HH.out.2.2.1;rw[z3,HH.out.1] at this;exact this⟩);clear z3;go_wp2;go_ret;exact⟨_,rfl,HF.out,HH.out.2.2.2.1⟩
theorem Zg{o:Oper}{a:Act}{w:World}{K:Act->World->Prop}{Q:Exit->Act->World->Prop}{P:Program}(s x:Operand)(t:TypeId)
  (ho:o.op= .call {callee:= .builtin .append,args:=#[s,x],argTypes:=#[t,t]})
  (base sz:Nat) (e:TypeId) (i:TypeInfo) (z:Value) (bytes:Nat) (ht:P.underlying t=some (.slice e)) (hi:P.info? e=some i) (hz:i.zero=some z)
  (hsize:i.size=sz) (hby:i.bytes=bytes) (hzs:z.cells.size=sz) (hs0:0<sz)
  (v:Value) (n:Nat) (xs:List Value) (hs:a.eval s=v) (hown:w.ownsRow base e sz v n xs)
  (B:Nat) (A:Option Addr) (m c:Nat) (news:List Value) (hx:a.eval x= .slice A m c) (hm:news.length=m*sz) (hr:Qh w B A news) (h1:∀u∈news,u.oneCell'=true)
  (h63:n+m<=maxLen) (hbytes:(n+m)*bytes<=140737488355328) (hbase:base<=w.heap.size)
  (h:∀A' c' w',w'.ownsRow base e sz (.slice A' (n+m) c') (n+m) (xs++news)->w.grownBy w' v.ownBlock->K (a.put o.dst (.slice A' (n+m) c')) w'):Oper.wp P o a w K Q:=by
 obtain⟨v',w',z0,h2,h3,_⟩:=YP (P:=P) w base sz t o.type e i z bytes ht hi hz hsize hby hzs hs0 v n xs hown B A m c news hm hr h1 h63 hbytes hbase;obtain⟨A',c',rfl⟩:=QI h2;unfold Oper.wp execOp;simp only[ho,resolve,invoke,builtin,Sem.run_bind,Sem.run_pure,Result.andThen_ok,LB,Lg,List.map_nil,hs,hx,z0];exact h _ _ _ h2 h3
def AuD(w:World)(base:Nat)(v:Value)(bad:Bool)(N:Nat):Prop:=∃dl:List S3,w.ownsRow base 79 3 v dl.length (tv dl)/\bad=decide (dl≠[])/\dl.length<=N
structure Q3(g base:Nat)(w w':World):Prop where
 os:w'.os=w.os
 tape:w'.tape=w.tape
 output:w'.output=w.output
 size:w.heap.size<=w'.heap.size
 low:∀k,k<w.heap.size->k<base->k≠g->w'.heap[k]?=w.heap[k]?
 other:∀k,k<w.heap.size->k≠g->(∀cs fz,w.heap[k]?≠some (.cells cs 79 fz))->w'.heap[k]?=w.heap[k]?
theorem Q3.refl(g base:Nat)(w:World):Q3 g base w w:=⟨rfl,rfl,rfl,Na _,fun _ _ _ _=>rfl,fun _ _ _ _=>rfl⟩
theorem Q3.trans{g base:Nat}{a b c:World}(h:Q3 g base a b)(k:Q3 g base b c):Q3 g base a c:=
 ⟨k.os.trans h.os,k.tape.trans h.tape,k.output.trans h.output,D3 h.size k.size,fun i hi hb hg=>(k.low i (Nh hi h.size) hb hg).trans (h.low i hi hb hg),
  fun i hi hg hn=>(k.other i (Nh hi h.size) hg (fun cs fz e=>hn cs fz ((h.other i hi hg hn).symm.trans e))).trans (h.other i hi hg hn)⟩
theorem Q3.of_below{g base:Nat}{a b:World}(h:Below a.heap.size a b):Q3 g base a b:=
 ⟨h.os,h.tape,h.output,h.size,fun i hi _ _=>h.block i hi,fun i hi _ _=>h.block i hi⟩
theorem Q3.of_add{g base n s:Nat}{v:Value}{xs:List Value}{w w':World}(h:DQ g v w w')(ho:w.ownsRow base 79 s v n xs):Q3 g base w w':=by
 refine⟨h.os,h.tape,h.output,h.size,fun k hk hb hg=>h.block k hk hg (fun e=>by have:=(ho.lt k e.symm).1;omega),fun k hk hg hn=>h.block k hk hg (fun e=>?_)⟩
 rcases ho.2 with⟨rfl,_⟩|⟨g',cap,cur,rfl,_,z0,_⟩
 ·cases e
 ·have e:k=g':=by simpa[Value.ownBlock] using e
  subst e;exact hn _ _ z0
theorem Q3.of_grown{g base n s:Nat}{v:Value}{xs:List Value}{w w':World}(h:w.grownBy w' v.ownBlock)(ho:w.ownsRow base 79 s v n xs):Q3 g base w w':=
 Q3.of_add (v:=v) ⟨h.os,h.tape,h.output,h.size,fun k hk _ hv=>h.block k hk hv⟩ ho
theorem Q3.of_own{g base:Nat}{w w':World}(h:w.grownBy w' (some g)):Q3 g base w w':=
 ⟨h.os,h.tape,h.output,h.size,fun k hk _ hg=>h.block k hk (fun e=>hg (Nd e)),fun k hk hg _=>h.block k hk (fun e=>hg (Nd e))⟩
section
variable {g base:Nat} {w w':World}
theorem Q3.below(h:Q3 g base w w'){n₀:Nat}(h1:n₀<=g)(h2:n₀<=base)(h3:n₀<=w.heap.size):Below n₀ w w':=⟨h.os,h.tape,h.output,h.size,fun k hk=>h.low k (Nh hk h3) (by omega) (by omega)⟩
theorem Q3.row(h:Q3 g base w w'){b:Nat}{t:TypeId}{cs:Array Value}{fz:Nat×Nat}(hb:w.heap[b]?=some (.cells cs t fz))(hg:b≠g)(ht:t≠79):w'.heap[b]?=some (.cells cs t fz):=
 (h.other b (Array.getElem?_eq_some_iff.1 hb).1 hg (fun cs' fz' e=>by rw[hb] at e;cases e;exact ht rfl)).trans hb
theorem Q3.own(h:Q3 g base w w'){gc:Array Value}{gt:TypeId}{gz:Nat×Nat}(hg:w.heap[g]?=some (.cells gc gt gz)){B e s n:Nat}{u:Value}{ys:List Value}(hu:w.ownsRow B e s u n ys)(h1:gt≠e)(h2:e≠79):w'.ownsRow B e s u n ys:=by
 refine⟨hu.1,?_⟩;rcases hu.2 with hn|⟨g2,z2,z1,hv,hb,z0,r⟩
 ·exact .inl hn
 ·exact .inr ⟨g2,z2,z1,hv,hb,h.row z0 (fun e=>by subst e;rw[hg] at z0;cases z0;exact h1 rfl) h2,r⟩
theorem Q3.vmap(h:Q3 g base w w'){gc:Array Value}{gt:TypeId}{gz:Nat×Nat}(hg:w.heap[g]?=some (.cells gc gt gz)){b n:Nat}{f:Int->Option Value}(hm:Xm w b n f):Xm w' b n f:=by
 have z1:=hm.ne_cells hg;obtain⟨D,⟨es,z0,hb,r⟩,h2⟩:=hm;exact⟨D,⟨es,z0,(h.other b (D0.1 hb).1 z1 (fun cs fz e=>by rw[hb] at e;cases e)).trans hb,r⟩,h2⟩
theorem Q3.isErr(h:Q3 g base w w'){gc:Array Value}{gt:TypeId}{gz:Nat×Nat}(hg:w.heap[g]?=some (.cells gc gt gz))(h1:gt≠179){d:Nat}{v:Value}(hv:Qy d w w.heap.size v):Qy d w' w'.heap.size v:=
 (hv.kept fun b cs hb=>h.row hb (fun e=>by subst e;rw[hg] at hb;cases hb;exact h1 rfl) (by decide)).more h.size
theorem Q3.errT(h:Q3 g base w w'){gc:Array Value}{gt:TypeId}{gz:Nat×Nat}(hg:w.heap[g]?=some (.cells gc gt gz))(h0:0<g)(h1:0<base)(hT:XC w):XC w':=
 (h.below (n₀:=1) h0 h1 (by have:=(D0.1 hg).1;omega)).cell (p:=⟨0,0,none⟩) (by show 0<1;omega)|>.trans hT
end
theorem Vl{w:World}{g base:Nat}{cs:Array Value}{t:TypeId}{v:Value}{bad:Bool}{N:Nat}(hr:w.heap[g]?=some (.cells cs t (0,0)))(ht:t≠79)(h0:cs[0]?=some v)(hd:AuD w base v bad N)(hbs:base<=w.heap.size)(hN:N<=5000000000000)(kind at_ er:Int):
  Calls prog 204 #[.pointer (some ⟨g,0,none⟩), .int .i64 kind, .int .i64 at_, .int .i64 er] w fun e w'=>e= .returned (.bool (decide (er≠0)))/\∃v',w'.heap[g]?=some (.cells (cs.setIfInBounds 0 v') t (0,0))/\AuD w' base v' (bad||decide (er≠0)) (N+1)/\Q3 g base w w':=by
 by_cases he:er=0
 ·subst he;refine(UF g kind at_ w).mono ?_;rintro e w' ⟨rfl,rfl⟩;obtain⟨dl,h1,h2,h3⟩:=hd;refine⟨by simp,v,?_,⟨dl,h1,by rw[h2];simp,by omega⟩,Q3.refl _ _ _⟩
  rw[hr]
  congr 2
  apply Array.ext_getElem?
  intro i;rw[Array.getElem?_setIfInBounds]
  split
  ·rename_i h;subst h;split
   ·exact h0
   ·rename_i h;rw[Array.getElem?_eq_none (by omega)] at h0;cases h0
  ·rfl
 ·obtain⟨dl,h1,h2,h3⟩:=hd;refine(E2 hr ht h0 h1 hbs (by omega) kind at_ er he).mono ?_;rintro e w' ⟨rfl,A,c,h4,h5,h6⟩;refine⟨by simp[he],_,h4,⟨dl++[(kind,at_,er)],?_,?_,?_⟩,Q3.of_add h6 h1⟩
  ·rw[D7];exact h5
  ·simp[he]
  ·rw[D7,Lj];omega
theorem set_self{cs:Array Value}{v:Value}(h0:cs[0]?=some v):cs.setIfInBounds 0 v=cs:=by
 apply Array.ext_getElem?
 intro i;rw[Array.getElem?_setIfInBounds]
 split
 ·rename_i h;subst h;split
  ·exact h0.symm
  ·rename_i h;rw[Array.getElem?_eq_none (by omega)] at h0;cases h0
 ·rfl
theorem Oa{w:World}{g base B:Nat}{cs:Array Value}{t:TypeId}{v:Value}{bad:Bool}{N:Nat}(hr:w.heap[g]?=some (.cells cs t (0,0)))(ht:t≠79)(ht1:t≠179)(ht2:t≠32)(h0:cs[0]?=some v)
  (hd:AuD w base v bad N) (z5:base<=w.heap.size) (za:0<g) (z8:0<base) {fl:List Value} (hN:N+fl.length<=5000000000000) (kind:Int) (A:Option Addr) (c:Nat)
  (hf:w.ownsRow B 32 1 (.slice A fl.length c) fl.length fl) (z9:∀u∈fl,Qy 40 w w.heap.size u) (hT:XC w):
  Calls prog 244 #[.pointer (some ⟨g,0,none⟩), .int .i64 kind, .slice A fl.length c] w fun e w'=>e= .returned (.tuple #[])/\∃v',w'.heap[g]?=some (.cells (cs.setIfInBounds 0 v') t (0,0))/\AuD w' base v' (bad||decide (fl≠[])) (N+fl.length)/\Q3 g base w w':=by
 obtain⟨js,zq,zs,zu,zp⟩:=info_parts Tryz.infoDmg;have z6:=DY (DZ hr (DZ ht (DZ ht1 (DZ ht2 (DZ h0 (DZ hd (DZ z5 (DZ za (DZ z8 (DZ hf (DZ z9 hT)))))))))));have HN:=DY hN;clear hr ht ht1 ht2 h0 hd z5 za z8 hf z9 hT hN;go_enter func244,ntmps244
 go_wp2_with fail
 go_loopw [10] (fun i wr=>∃(k:Nat) (v':Value),k<=fl.length/\i= .int .i64 k/\Hid (wr.heap[g]?=some (.cells (cs.setIfInBounds 0 v') t (0,0))/\AuD wr base v' (bad||decide (0<k)) (N+k)/\Q3 g base w wr)) (fun i _=>fl.length-(intOf i).toNat)
 case atStart=>
  obtain⟨hr,ht,ht1,ht2,h0,hd,-⟩:=z6.out;refine⟨0,v,by omega,rfl,DY ⟨by rw[set_self h0];exact hr,?_,Q3.refl _ _ _⟩⟩
  simpa using hd
 case round=>
  obtain⟨k,v',hk,rfl,HH⟩:=hrel;by_cases hlt:k<fl.length
  ·obtain⟨hr,ht,ht1,ht2,h0,hd,z5,za,z8,hf,z9,hT⟩:=z6.out;obtain⟨zc,⟨dl,zb,zf,zx⟩,z1⟩:=HH.out;obtain⟨ad,rfl,-,hc⟩:=(Qh.of_own (z1.own hr hf ht2 (by decide))).at_ (k:=k) hlt;have he:=z1.isErr hr ht1 (z9 _ (Nm hlt));have zk:=z1.errT hr za z8 hT;obtain⟨vt,vx,hx⟩:=he.form;rw[hx] at hc he;have zg:=(Below.refl wr.heap.size wr).drew;obtain⟨A0,C0,rfl⟩:=QI zb;have zy:0<cs.size:=(D0.1 h0).1;have zl:(cs.setIfInBounds 0 (.slice A0 dl.length C0))[0]?=some (.slice A0 dl.length C0):=by rw[Lt zy]
   have c0:wr.cell? ⟨g,0,none⟩=some (.slice A0 dl.length C0):=Qa zc 0 zl;have c0':=Qg zg c0;have KO:=DY (fun(W:World) (hW:Below wr.heap.size wr W)=>R4 kind (.iface vt vx) W 40 (by decide) (he.ext hW) (zk.below hW));have zj:=DY zg;have zw:=DY (show∀(W:World) (o:Obj),Below wr.heap.size wr W->base<=(W.alloc o).heap.size from fun W o hW=>D3 z5 (D3 z1.size (D3 hW.size (Qd W o).size)))
   have zr:=DY (show∀(W:World) (o:Obj),Below wr.heap.size wr W->(W.alloc o).ownsRow base 79 3 (.slice A0 dl.length C0) dl.length (tv dl) from fun W o hW=>(Qk zb hW).alloc o);have zv:dl.length+1<=5000000000000:=by have:=HN.out;omega
   have HLE:=Lib.hid zv;have zn:=DY hlt;have hkb:k<=5000000000000:=by have:=HN.out;omega
   have zm:=DY (show∀(W w7:World) (o:Obj),Below wr.heap.size wr W->(W.alloc o).grownBy w7 (Value.slice A0 dl.length C0).ownBlock->w7.heap[g]?=some (.cells (cs.setIfInBounds 0 (.slice A0 dl.length C0)) t (0,0)) from fun W w7 o hW z3=>by
    have hx:=Qj (Qe zc hW) o;exact(z3.block g (D0.1 hx).1 (Qi hx ht ((Qk zb hW).alloc o))).trans hx)
   have zh:=DY (show∀(W w7:World) (a1 c1:Int) (A7:Option Addr) (c7:Nat),Below wr.heap.size wr W->(W.alloc (.cells #[.int .i64 kind, .int .i64 a1, .int .i64 c1] 79)).grownBy w7 (Value.slice A0 dl.length C0).ownBlock->
     w7.ownsRow base 79 3 (.slice A7 (dl.length+1) c7) (dl.length+1) (tv dl++[.int .i64 kind, .int .i64 a1, .int .i64 c1])->
     ∃v2,(w7.setCell ⟨g,0,none⟩ (.slice A7 (dl.length+1) c7)).heap[g]?=some (.cells (cs.setIfInBounds 0 v2) t (0,0))/\AuD (w7.setCell ⟨g,0,none⟩ (.slice A7 (dl.length+1) c7)) base v2 (bad||decide (0<k+1)) (N+(k+1))/\Q3 g base w (w7.setCell ⟨g,0,none⟩ (.slice A7 (dl.length+1) c7)) from fun W w7 a1 c1 A7 c7 hW z3 z0=>by
    have z4:=zm.out W w7 _ hW z3;have zi:=Qo w7 g 0 (.slice A7 (dl.length+1) c7);refine⟨.slice A7 (dl.length+1) c7,?_,⟨dl++[(kind,a1,c1)],?_,?_,?_⟩,?_⟩
    ·rw[heap_setCell_same w7 g 0 _ _ _ z4,Array.setIfInBounds_setIfInBounds]
    ·rw[D7,Lj,tv_snoc];exact z0.kept zi (.inr (Qi z4 ht z0).symm)
    ·simp
    ·rw[D7,Lj];omega
    ·exact z1.trans ((Q3.of_below (hW.trans ((Qd W _).mono hW.size))).trans ((Q3.of_grown z3 ((Qk zb hW).alloc _)).trans (Q3.of_own zi))))
   have HRG:=Lib.hid zc;clear hr ht ht1 ht2 h0 hd z5 za z8 hf z9 hT zc zb zf zx z1 he zk hx zg zl;generalize z2:dl.length=n at*;generalize zo:tv dl=tvd at*;have HHH:=Lib.hid (DZ z2 zo);clear z2 zo;go_upto_region 3 with fail
   refine wp_region_held_drew (S:=(fun V=>0<=V.heap.size)) (by kernel_rfl) ?_ (fun hHeld=>?_)
   (focus((try dsimp only);(first|exact Lb _)))
   refine QD (.f 0 (.f 1 (.f 2 (.f 3 (.f 5 (.f 6 (.t 4 (.o 7 (.o 8 (.r 9 (.f 10 (.f 11 (.o 12 .e)))))) 7 (.t 4 (.o 8 (.r 9 (.f 10 (.f 11 (.o 12 .e))))) 8 (.o 4 (.r 9 (.f 10 (.f 11 (.o 12 .e))))))))))))) ?_
   repeat' ((first|(refine QL (v:=?_) (hv:=?_) (h:=?_);rotate_left;(focus(first|(refine .inr ⟨by rfl,?_⟩;rfl)|(refine .inl ⟨by rfl,?_⟩;intro w hSw;(try dsimp only at hSw);(try simp only[D8,D4,D5]);go_simp;try(with_reducible rfl)))))|(refine Qr (h:=?_))|((first|((first|refine Qx (h:=fun K hK=>?_)|refine Zt (h:=fun K hK=>?_) (h':=fun K hK=>?_))<;>((try simp only[D8,D4,D5]);go_simp))|(refine Q0 (h:=fun K hK=>?_)))<;>((first|(go_at_call 200;refine(KO.out _ zj.out).mono ?_;rintro e w3 ⟨a1,c1,rfl,ze⟩;have c3:=Qg ze c0';have c4:=Qg (Qd w3 (.cells #[.int .i64 kind, .int .i64 a1, .int .i64 c1] 79)) c3;have zd:=DY (Qb zj.out ze);clear ze)|(refine Zg (.tmp 18) (.tmp 22) _ rfl base 3 79 js _ 24 underlying74 zq zs zu zp rfl (by decide) _ n tvd rfl (zr.out w3 _ zd.out) _ _ 1 1 [.int .i64 kind, .int .i64 a1, .int .i64 c1] rfl rfl (Qh.new w3 [.int .i64 kind, .int .i64 a1, .int .i64 c1] 79 (0,0)) (by simp[Value.oneCell']) (by simp only[maxLen];omega) (by omega) (zw.out w3 _ zd.out) ?_;intro A7 c7 w7 z0 z3;have z4:=zm.out w3 w7 _ zd.out z3;have z7:=Qf z4 0;obtain⟨u7,k7⟩:∃u,w7.cell? ⟨g,0,none⟩=some u:=⟨_,Qa z4 0 (by rw[Lt (by assumption)])⟩;have zt:=DY (zh.out w3 w7 a1 c1 A7 c7 zd.out z3 z0);clear z4 z0 z3)|skip);refine hK.out _ _ ?_ (fun hHeld=>?_);(focus((try dsimp only);(first|exact Lb _)));clear hK K)))<;>(try simp only[Act.put,Nc,Nf,Ng]))
   all_goals (refine Qu ?_;refine wpAnyH_done (by kernel_rfl) ?_ _)
   all_goals
    go_wp2;go_roundw
    case rel=>
     obtain⟨v2,h1,h2,h3⟩:=zt.out;exact⟨k+1,v2,by have:=zn.out;omega,by go_num,DY ⟨h1,h2,h3⟩⟩
    case measure=>have:=zn.out;simp[intOf];omega
  ·obtain rfl:k=fl.length:=by omega
   go_wp2;go_end0
   refine⟨rfl,v',HH.out.1,?_,HH.out.2.2⟩;have:=HH.out.2.1
   rwa[show decide (0<fl.length)=decide (fl≠[]) by simp[LQ]] at this
end Go.Proofs.YtijcgllddnpmhaaGreatDoor
