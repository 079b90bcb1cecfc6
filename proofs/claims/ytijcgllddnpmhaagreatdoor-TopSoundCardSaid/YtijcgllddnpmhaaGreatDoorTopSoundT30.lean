/- TopSound: lemmas, part 30. -/
import Derived.Test.YtijcgllddnpmhaaGreatDoorTopSoundT29
import Derived.Lib.SlicesCompact
import Derived.Shelf.Sort.Plain
import Derived.Shelf.Slices.In.SortNone
import Derived.Shelf.Slices.CompactI
import Derived.Sort.OwnSortedInts
set_option maxRecDepth 100000
set_option maxHeartbeats 16000000
set_option linter.all false
namespace Go.Proofs.YtijcgllddnpmhaaGreatDoor
open Go.RowKit Go.Proofs.Tryz
theorem Ge(n:Int):(Lit.int .i64 n).wf=true↔ -9223372036854775808<=n/\n<=9223372036854775807:=by
 show(decide (_<=n)&&decide (n<=_))=true↔_
 rw[Nu,decide_eq_true_iff,decide_eq_true_iff];exact Iff.rfl
theorem EU{w:World}{B g:Nat}{A:Option Addr}{c:Nat}{bs:List UInt8}(hi:Img w B g A c bs)(no:Nat)(hno:no<bs.length / 256)(kind:Int)(wk:(Lit.int .i64 kind).wf=true)(A2:Option Addr)(c2:Nat)(p:List UInt8)(hs:Yb kind no p=0)(hl:(QX kind no p).length=256)(h:Qh w w.heap.size A2 (bv p)):
  Calls prog 114 #[.pointer (some ⟨g,0,none⟩), .int .i64 no, .int .i64 kind, .slice A2 p.length c2] w fun e w'=>e= .returned .nilIface/\Img w' B g A c (QR bs no (QX kind no p))/\∃w1,Below w.heap.size w w1/\w1.grownBy w' (Value.slice A bs.length c).ownBlock:=by
 have hL:=hi.2.2.1;have wn:(Lit.int .i64 (no:Int)).wf=true:=by rw[Ge];omega
 have KS:=seal_any kind no A2 c2 p w wk wn h;rw[hs] at KS;have KW:Hid (∀W,Below w.heap.size w W->∀A3 c3,Qh W W.heap.size A3 (bv (QX kind no p))->Calls prog 184 #[.pointer (some ⟨g,0,none⟩), .int .i64 no, .slice A3 256 c3] W fun e w'=>e= .returned (.int .i64 0)/\Img w' B g A c (QR bs no (QX kind no p))/\W.grownBy w' (Value.slice A bs.length c).ownBlock):=DY fun W hW A3 c3 hr=>iwrite_ok (hi.below hW) no hno A3 c3 _ hl hr
 have HL:=DY hl;clear hi hno wk wn hs hl h hL;generalize QX kind no p=sv at*;generalize QR bs no sv=nb at*;go_enter func114,ntmps114
 go_wp2_with fail
 refine KS.mono ?_;rintro e w1 ⟨A3,c3,rfl,ho,hb⟩;rw[Qm,HL.out] at ho ⊢;have K2:=KW.out w1 hb A3 c3 (Qh.of_own ho);have HB:=DY hb;clear KS ho hb;go_wp2_with fail
 refine K2.mono ?_;rintro e w2 ⟨rfl,z0,z1⟩;have HF:=DY (DZ z0 z1);have KT:=btold_ok no w2;clear K2 z0 z1;go_wp2_with fail
 refine KT.mono ?_;rintro e w3 ⟨rfl,rfl⟩;clear KT;go_wp2;go_ret;exact⟨rfl,HF.out.1,w1,HB.out,HF.out.2⟩
theorem own_other{w:World}{B B2 e e2 s s2 n n2:Nat}{v v2:Value}{xs ys:List Value}(h:w.ownsRow B e s v n xs)(h2:w.ownsRow B2 e2 s2 v2 n2 ys)(hne:e≠e2):v.ownBlock=none∨v.ownBlock≠v2.ownBlock:=by
 rcases h.2 with⟨rfl,-⟩|⟨g,cap,cur,rfl,hb',z0,hr⟩
 ·exact .inl rfl
 ·exact .inr (Qi z0 hne h2)
def al12:List Int:=[1,2,3,4,5,6,7,8,9,10,11]
structure AlC where
 B:Nat
 ga:Nat
 gi:Nat
 gq:Nat
 Qc:Nat
 A:Option Addr
 c:Nat
structure AlM(h:AlC)(w:World)(bs:List UInt8)(k:Nat):Prop where
 box:w.heap[h.ga]?=some (.cells #[.slice (some ⟨h.gq,0,none⟩) 11 h.Qc, .int .i64 k, .pointer (some ⟨h.gi,0,none⟩)] 217)
 row:w.ownsRow h.B 3 1 (.slice (some ⟨h.gq,0,none⟩) 11 h.Qc) 11 (iv al12)
 img:Img w h.B h.gi h.A h.c bs
 len:bs.length=3072
 hB:h.B<=h.ga
abbrev Q6(h:AlC)(w w':World):Prop:=DQ h.ga (.slice h.A 3072 h.c) w w'
theorem AlM.below{h:AlC}{w w':World}{bs:List UInt8}{k:Nat}(hA:AlM h w bs k)(hb:Below w.heap.size w w'):AlM h w' bs k:=
 ⟨Qe hA.box hb,Qk hA.row hb,hA.img.below hb,hA.len,hA.hB⟩
theorem AlM.all{h:AlC}{w:World}{bs:List UInt8}{k:Nat}(hA:AlM h w bs k)(j:Nat)(hj:j<11):w.cell? ⟨h.gq,j,none⟩=some (.int .i64 ((j+1:Nat):Int)):=by
 have h1:=hA.row.cells (g:=h.gq) rfl j (.int .i64 ((j+1:Nat):Int)) (by
  rcases(show j=0∨j=1∨j=2∨j=3∨j=4∨j=5∨j=6∨j=7∨j=8∨j=9∨j=10 by omega) with rfl|rfl|rfl|rfl|rfl|rfl|rfl|rfl|rfl|rfl|rfl<;>rfl)
 rw[Zo,ND] at h1;exact h1
theorem AlM.next{h:AlC}{w:World}{bs:List UInt8}{k k':Nat}(hA:AlM h w bs k):AlM h (w.setCell ⟨h.ga,1,none⟩ (.int .i64 k')) bs k':=by
 have hg:=Qo w h.ga 1 (.int .i64 k');refine⟨?_,hA.row.kept hg (.inr (Qi hA.box (by decide) hA.row).symm),hA.img.kept hg ?_ (.inr (Qi hA.box (by decide) hA.img.2.1).symm),hA.len,hA.hB⟩
 ·rw[heap_setCell_same w h.ga 1 _ _ _ hA.box];simp only[Nc,Nf,Ng]
 ·intro e;have e:=Nd e;have h1:=hA.img.1;have h2:=hA.box;unfold Boxed at h1;rw[<-e,h2] at h1
  injection h1 with h1
  injection h1 with _ h1 _
  exact absurd h1 (by decide)
theorem AlM.wrote{h:AlC}{w w1 w2:World}{bs nb:List UInt8}{k:Nat}(hA:AlM h w bs k)(hb:Below w.heap.size w w1)(hg:w1.grownBy w2 (Value.slice h.A bs.length h.c).ownBlock)(hi:Img w2 h.B h.gi h.A h.c nb)(hn:nb.length=3072):AlM h w2 nb k/\Q6 h w w2:=by
 have h1:=hA.below hb;have hx:w2.heap[h.ga]?=some (.cells #[.slice (some ⟨h.gq,0,none⟩) 11 h.Qc, .int .i64 k, .pointer (some ⟨h.gi,0,none⟩)] 217):=
  (hg.block h.ga (D0.1 h1.box).1 (Qi h1.box (by decide) h1.img.2.1)).trans h1.box
 refine⟨⟨hx,?_,hi,hn,hA.hB⟩,?_⟩
 ·refine h1.row.kept hg ?_;exact own_other h1.row h1.img.2.1 (by decide)
 ·rw[hA.len] at hg;exact⟨hg.os.trans hb.os,hg.tape.trans hb.tape,hg.output.trans hb.output,D3 hb.size hg.size,fun j hj h1 h2=>(hg.block j (Nh hj hb.size) h2).trans (hb.block j hj)⟩
theorem Q6.of_grown{h:AlC}{w w':World}(hg:w.grownBy w' (some h.ga)):Q6 h w w':=⟨hg.os,hg.tape,hg.output,hg.size,fun j hj h1 _=>hg.block j hj (fun e=>h1 (Nd e))⟩
theorem Q6.of_below{h:AlC}{w w':World}(hb:Below w.heap.size w w'):Q6 h w w':=⟨hb.os,hb.tape,hb.output,hb.size,fun j hj _ _=>hb.block j hj⟩
theorem Q6.trans{h:AlC}{a b c:World}(h1:Q6 h a b)(h2:Q6 h b c):Q6 h a c:=
 ⟨h2.os.trans h1.os,h2.tape.trans h1.tape,h2.output.trans h1.output,D3 h1.size h2.size,fun j hj e1 e2=>(h2.block j (Nh hj h1.size) e1 e2).trans (h1.block j hj e1 e2)⟩
theorem AlM.low{h:AlC}{w w':World}{bs:List UInt8}{k n:Nat}(hA:AlM h w bs k)(ht:Q6 h w w')(hn:n<=h.B):Below n w w':=by
 have hl:=hA.len;have h1:=(D0.1 hA.box).1;have hB:=hA.hB;exact ht.below (base:=h.B) (n:=3072) (e:=5) (s:=1) (xs:=bv bs) (by rw[<-hl];exact hA.img.2.1) (by omega) hn (by omega)
theorem AlM.keep{h:AlC}{w w':World}{bs:List UInt8}{k b:Nat}{t:TypeId}{cs:Array Value}{fz:Nat×Nat}(hA:AlM h w bs k)(ht:Q6 h w w')(hb:w.heap[b]?=some (.cells cs t fz))(h1:t≠217)(h2:t≠5):w'.heap[b]?=some (.cells cs t fz):=by
 have hl:=hA.len;refine ht.row (base:=h.B) (n:=3072) (e:=5) (s:=1) (xs:=bv bs) (by rw[<-hl];exact hA.img.2.1) hb ?_ h2;rintro rfl;rw[hA.box] at hb;cases hb;exact h1 rfl
theorem AlM.own{h:AlC}{w w':World}{bs:List UInt8}{k B e s n:Nat}{u:Value}{ys:List Value}(hA:AlM h w bs k)(ht:Q6 h w w')(hu:w.ownsRow B e s u n ys)(h1:e≠217)(h2:e≠5):w'.ownsRow B e s u n ys:=by
 refine⟨hu.1,?_⟩;rcases hu.2 with hn|⟨g2,z1,z0,hv,hb,z2,r⟩
 ·exact .inl hn
 ·exact .inr ⟨g2,z1,z0,hv,hb,hA.keep ht z2 h1 h2,r⟩
theorem take_ok{h:AlC}{w:World}{bs:List UInt8}{k:Nat}(hA:AlM h w bs k)(hk:k<11):Calls prog 255 #[.pointer (some ⟨h.ga,0,none⟩)] w fun e w'=>e= .returned (.tuple #[.int .i64 ((k+1:Nat):Int), .bool true])/\AlM h w' bs (k+1)/\Q6 h w w':=by
 have z1:=(D6 w.heap.size w).drew;obtain⟨c0,c1⟩:=DU (Qe hA.box z1);have f1:=Qf (Qe hA.box z1) 1;have b1:=Qa hA.box 1 rfl;have hf1:=Qf hA.box 1;have hn:=hA.next (k':=k+1);have hg:=Q6.of_grown (h:=h) (Qo w h.ga 1 (.int .i64 ((k+1:Nat):Int)));obtain⟨w2,z0⟩:=DR ((w.setCell ⟨h.ga,1,none⟩ (.int .i64 ((k+1:Nat):Int))).drew);have z2:Below (w.setCell ⟨h.ga,1,none⟩ (.int .i64 ((k+1:Nat):Int))).heap.size (w.setCell ⟨h.ga,1,none⟩ (.int .i64 ((k+1:Nat):Int))) w2.drew:=by rw[z0];exact(D6 _ _).drew.drew
 have hN:=hn.below z2;have HT:=DY (hg.trans (Q6.of_below (h:=h) z2));have d0:=Qa hN.box 0 rfl;have d1:=Qa hN.box 1 rfl;have dq:=hN.all k hk;have HN:=DY hN;have hw1:IntKind.i64.wrap ((k:Int)+1)=((k+1:Nat):Int):=by rw[Nv];omega
 have hw3:IntKind.i64.wrap (((k+1:Nat):Int)-1)=(k:Int):=by rw[Nv];omega
 have hge:decide ((11:Int)<=(k:Int))=false:=decide_eq_false (by omega);have HK:=DY hk;clear hA z1 hN hn hg z2;generalize hk1:((k+1:Nat):Int)=k1 at*;have HK1:=DY hk1;clear hk1;go_enter func255,ntmps255
 go_upto_region 1 with fail
 go_region
 go_upto_region 4 with fail
 rw[<-z0];clear z0;go_region
 go_wp2;go_ret2
 exact⟨rfl,HN.out,HT.out⟩
theorem V8{h:AlC}{w:World}{bs:List UInt8}{k:Nat}(hA:AlM h w bs k):Calls prog 166 #[.pointer (some ⟨h.ga,0,none⟩)] w fun e w'=>e= .returned (.bool false)/\w=w':=by
 have c2:=Qa hA.box 2 rfl;clear hA;go_enter func166,ntmps166
 go_wp2;go_ret;exact⟨rfl,rfl⟩
theorem YB{h:AlC}{w:World}{bs:List UInt8}{k:Nat}(hA:AlM h w bs k):Calls prog 108 #[.pointer (some ⟨h.ga,0,none⟩)] w fun e w'=>e= .returned (.pointer (some ⟨h.gi,0,none⟩))/\w=w':=by
 have c2:=Qa hA.box 2 rfl;have KN:=V8 hA;clear hA;go_enter func108,ntmps108
 go_wp2_with fail
 refine KN.mono ?_;rintro e w1 ⟨rfl,rfl⟩;clear KN;go_wp2;go_ret;exact⟨rfl,rfl⟩
theorem used_ok{h:AlC}{w:World}{bs:List UInt8}{k:Nat}(hA:AlM h w bs k):Calls prog 181 #[.pointer (some ⟨h.ga,0,none⟩)] w fun e w'=>e= .returned (.int .i64 k)/\w=w':=by
 have c1:=Qa hA.box 1 rfl;have KN:=V8 hA;clear hA;go_enter func181,ntmps181
 go_wp2_with fail
 refine KN.mono ?_;rintro e w1 ⟨rfl,rfl⟩;clear KN;go_wp2;go_ret;exact⟨rfl,rfl⟩
theorem aleft_ok{h:AlC}{w:World}{bs:List UInt8}{k:Nat}(hA:AlM h w bs k)(hk:k<11):Calls prog 226 #[.pointer (some ⟨h.ga,0,none⟩)] w fun e w'=>e= .returned (.slice (some ⟨h.gq,k,none⟩) (11-k) (h.Qc-k))/\w'=w.drew:=by
 have z0:=(D6 w.heap.size w).drew;obtain⟨c0,c1⟩:=DU (Qe hA.box z0);have hq:h.Qc≠k:=by
  obtain⟨-,hr⟩:=hA.row;rcases hr with⟨hv,h0⟩|⟨g,cap,cur,hv,hb',hgb,hr⟩
  ·cases h0
  ·injection hv with _ _ h3
   have:=hr.1;omega
 clear hA z0;go_enter func226,ntmps226
 go_upto_region 1 with fail
 go_region
 go_wp2;go_ret;exact⟨rfl,rfl⟩
theorem Rk{h:AlC}{w:World}{bs:List UInt8}{k:Nat}(hA:AlM h w bs k)(hk:k<11):Calls prog 172 #[.pointer (some ⟨h.ga,0,none⟩)] w fun e w'=>e= .returned (.int .i64 ((11-k:Nat):Int))/\w'=w.drew:=by
 have KN:=V8 hA;have KL:=aleft_ok hA hk;clear hA;go_enter func172,ntmps172
 go_wp2_with fail
 refine KN.mono ?_;rintro e w1 ⟨rfl,rfl⟩;clear KN;go_wp2_with fail
 refine KL.mono ?_;rintro e w1 ⟨rfl,rfl⟩;clear KL;go_wp2;go_ret;exact⟨rfl,rfl⟩
theorem next_ok{h:AlC}{w:World}{bs:List UInt8}{k:Nat}(hA:AlM h w bs k)(hk:k<11):Calls prog 231 #[.pointer (some ⟨h.ga,0,none⟩)] w fun e w'=>e= .returned (.tuple #[.int .i64 ((k+1:Nat):Int), .nilIface])/\AlM h w' bs (k+1)/\Q6 h w w':=by
 have KN:=V8 hA;have KT:=take_ok hA hk;clear hA hk;generalize ((k+1:Nat):Int)=k1 at*;go_enter func231,ntmps231
 go_wp2_with fail
 refine KN.mono ?_;rintro e w1 ⟨rfl,rfl⟩;clear KN;go_wp2_with fail
 refine KT.mono ?_;rintro e w1 ⟨rfl,h1,h2⟩;have HF:=DY (DZ h1 h2);clear KT h1 h2;go_wp2;go_ret2
 exact⟨rfl,HF.out.1,HF.out.2⟩
theorem UE{h:AlC}{w:World}{bs:List UInt8}{k:Nat}(hA:AlM h w bs k)(hk:k<11)(kind:Int)(wk:(Lit.int .i64 kind).wf=true)(A2:Option Addr)(c2:Nat)(p:List UInt8)(hs:Yb kind ((k+1:Nat):Int) p=0)(hl:(QX kind ((k+1:Nat):Int) p).length=256)(hr:∀W,Q6 h w W->Qh W W.heap.size A2 (bv p)):
  Calls prog 180 #[.pointer (some ⟨h.ga,0,none⟩), .int .i64 kind, .slice A2 p.length c2] w fun e w'=>e= .returned (.tuple #[.int .i64 ((k+1:Nat):Int), .nilIface])/\AlM h w' (QR bs (k+1) (QX kind ((k+1:Nat):Int) p)) (k+1)/\Q6 h w w':=by
 have KN:=next_ok hA hk;have z0:=hA.len;have z1:=U4 bs (k+1) (QX kind ((k+1:Nat):Int) p) (by rw[z0];omega) hl;have KW:Hid (∀W,AlM h W bs (k+1)->Q6 h w W->Calls prog 114 #[.pointer (some ⟨h.gi,0,none⟩), .int .i64 ((k+1:Nat):Int), .int .i64 kind, .slice A2 p.length c2] W fun e w'=>e= .returned .nilIface/\AlM h w' (QR bs (k+1) (QX kind ((k+1:Nat):Int) p)) (k+1)/\Q6 h w w'):=DY fun W hW hT=>by
  refine(EU hW.img (k+1) (by rw[z0];omega) kind wk A2 c2 p hs hl (hr W hT)).mono ?_;rintro e w' ⟨rfl,h1,w1,h2,h3⟩;obtain⟨h4,h5⟩:=hW.wrote h2 h3 h1 (by rw[z1,z0]);exact⟨rfl,h4,hT.trans h5⟩
 clear hA hk wk hs hl hr z0 z1;generalize QR bs (k+1) (QX kind ((k+1:Nat):Int) p)=nb at*;generalize hk1:((k+1:Nat):Int)=k1 at*;clear hk1;go_enter func180,ntmps180
 go_wp2_with fail
 refine KN.mono ?_;rintro e w1 ⟨rfl,h1,h2⟩;have c2:=Qa h1.box 2 rfl;have K2:=KW.out w1 h1 h2;clear KN h1 h2;go_wp2_with fail
 refine K2.mono ?_;rintro e w2 ⟨rfl,h1,h2⟩;have HF:=DY (DZ h1 h2);clear K2 h1 h2 c2;go_wp2;go_ret2
 exact⟨rfl,HF.out.1,HF.out.2⟩
theorem al12_take:∀k,k<11->iv (al12.take (k+1))=iv (al12.take k)++[.int .i64 ((k+1:Nat):Int)]:=by
 intro k hk;rcases(show k=0∨k=1∨k=2∨k=3∨k=4∨k=5∨k=6∨k=7∨k=8∨k=9∨k=10 by omega) with rfl|rfl|rfl|rfl|rfl|rfl|rfl|rfl|rfl|rfl|rfl<;>rfl
theorem anew_ok{w:World}{B g:Nat}{A:Option Addr}{c:Nat}{bs:List UInt8}(hi:Img w B g A c bs)(hl:bs.length=3072):
  Calls prog 61 #[.pointer (some ⟨g,0,none⟩), .int .i64 1] w fun e w'=>∃h:AlC,e= .returned (.tuple #[.pointer (some ⟨h.ga,0,none⟩), .nilIface])/\h.gi=g/\h.B=B/\h.A=A/\h.c=c/\AlM h w' bs 0/\Below w.heap.size w w':=by
 obtain⟨js,zd,za,zc,z9⟩:=info_parts Tryz.infoI64;have HI:=DY (DZ hi hl);have KB:Hid (∀W,Below w.heap.size w W->Calls prog 54 #[.pointer (some ⟨g,0,none⟩)] W fun e w'=>e= .returned (.int .i64 12)/\W=w'):=DY fun W hW=>by
  have:=XW (hi.below hW);rw[hl] at this;exact this
 have z6:=KB.out w (Below.refl _ _);clear hi hl;go_enter func61,ntmps61
 go_wp2_with fail
 refine z6.mono ?_;rintro e w1 ⟨rfl,rfl⟩;clear z6;go_wp2_with fail
 go_loopw [6,7] (fun u i wr=>∃(k:Nat) (A6:Option Addr) (c6:Nat),k<=11/\u= .slice A6 k c6/\i= .int .i64 ((k+1:Nat):Int)/\Hid (wr.ownsRow w.heap.size 3 1 (.slice A6 k c6) k (iv (al12.take k))/\Below w.heap.size w wr)) (fun _ i _=>12-(intOf i).toNat)
 case atStart=>exact⟨0,none,0,by omega,rfl,rfl,DY ⟨Nb _ _ _ _,D6 _ _⟩⟩
 case round=>
  obtain⟨k,A6,c6,hk,rfl,rfl,HH⟩:=hrel;have z2:=KB.out wr HH.out.2;by_cases hlt:k<11
  ·have d1:decide (((k+1:Nat):Int)<12)=true:=decide_eq_true (by omega);have hw1:IntKind.i64.wrap (((k+1:Nat):Int)+1)=((k+1+1:Nat):Int):=by rw[Nv];omega
   have HT:=DY (al12_take k hlt);have z1:=DY hlt;clear hk hlt;generalize z3:((k+1:Nat):Int)=k1 at*;generalize z8:((k+1+1:Nat):Int)=k2 at*;generalize z7:iv (al12.take k)=xs at*;have z4:=DY (DZ z3 (DZ z8 z7));clear z3 z8 z7;go_wp2_with fail
   refine z2.mono ?_;rintro e w2 ⟨rfl,rfl⟩;clear z2;go_wp2_with (at_builtin;refine Qq _ rfl (.tmp 28) (.tmp 30) _ rfl w.heap.size 1 3 js _ 8 underlying68 zd za zc z9 rfl (by decide) (.slice A6 k c6) k xs rfl (HH.out.1.alloc _) _ _ 1 1 [.int .i64 k1] rfl rfl (Qh.new wr [.int .i64 k1] 3 (0,0)) (by simp[Value.oneCell']) (by have:=z1.out;simp only[maxLen];omega) (by have:=z1.out;omega) (D3 HH.out.2.size (Qd wr _).size) ?_;intro A7 c7 w7 z0 zb z5 _;have HF:=DY (DZ z0 z5);clear z0 zb z5)
   go_roundw
   case rel=>
    refine⟨k+1,A7,c7,by have:=z1.out;omega,rfl,by rw[z4.out.2.1],DY ⟨?_,?_⟩⟩
    ·rw[HT.out];exact HF.out.1
    ·exact(HH.out.2.alloc HH.out.2.size _).trans HF.out.2
   case measure=>have:=z1.out;have:=z4.out;simp[intOf];omega
  ·obtain rfl:k=11:=by omega
   clear hk hlt;go_wp2_with fail
   refine z2.mono ?_;rintro e w2 ⟨rfl,rfl⟩;clear z2;go_wp2;go_ret2
   have hw:=HI.out.1;have hB:B<=w.heap.size:=by have:=hw.2.2.2;have:=hw.lt;omega
   obtain⟨gq,rfl⟩:∃gq,A6=some ⟨gq,0,none⟩:=by
    rcases HH.out.1.2 with⟨hv,hz⟩|⟨q,cap,cur,hv,hb,hg,_⟩
    ·cases hz
    ·injection hv with h1 h2 h4
     exact⟨q,h1⟩
   have ho:wr.ownsRow w.heap.size 3 1 (.slice (some ⟨gq,0,none⟩) 11 c6) 11 (iv al12):=HH.out.1;exact⟨⟨B,wr.heap.size,g,gq,c6,A,c⟩,rfl,rfl,rfl,rfl,rfl,⟨heap_alloc_new wr _,QO (ho.alloc _) hB,(hw.below HH.out.2).below (Qd wr _),HI.out.2,D3 hB HH.out.2.size⟩,HH.out.2.alloc HH.out.2.size _⟩
theorem AlM.cap{h:AlC}{w:World}{bs:List UInt8}{k:Nat}(hA:AlM h w bs k):11<=h.Qc:=by
 obtain⟨-,hr⟩:=hA.row;rcases hr with⟨hv,h0⟩|⟨g,cap,cur,hv,hb',hgb,hr⟩
 ·cases h0
 ·injection hv with _ _ h3
  have:=hr.1;omega
theorem al12_from(h:AlC){w:World}{bs:List UInt8}{k:Nat}(hA:AlM h w bs k):Qh w w.heap.size (some ⟨h.gq,6,none⟩) (iv [7,8,9]):=fun _=>by
 have h1:=hA.all 6 (by omega);have h2:=hA.all 7 (by omega);have h3:=hA.all 8 (by omega);have hb:h.gq<w.heap.size:=(block_lt_of_cell h1:(⟨h.gq,6,none⟩:Addr).block<w.heap.size);refine⟨⟨h.gq,6,none⟩,rfl,hb,fun j u hj=>?_⟩
 rcases(show j=0∨j=1∨j=2∨3<=j by omega) with rfl|rfl|rfl|z0
 ·cases hj;rw[Zo];exact h1
 ·cases hj;rw[Zo];exact h2
 ·cases hj;rw[Zo];exact h3
 ·rw[NI (by simpa[iv] using z0)] at hj;cases hj
theorem ahead_ok{h:AlC}{w:World}{bs:List UInt8}(hA:AlM h w bs 6):Calls prog 177 #[.pointer (some ⟨h.ga,0,none⟩), .int .i64 3] w (fun e w'=>∃A c,e= .returned (.slice A 3 c)/\w'.ownsRow w.heap.size 3 1 (.slice A 3 c) 3 (iv [7,8,9])/\Below w.heap.size w w'):=by
 have KN:=V8 hA;have KL:=aleft_ok hA (by omega);have z0:=(D6 w.heap.size w).drew;have KC:=DY (fun c'=>Jv (some ⟨h.gq,6,none⟩) c' [7,8,9] w.drew _ (Na _) (by simp[reachBytes]) (al12_from h (hA.below z0)));have HB:=DY z0;have hq1:¬(((h.Qc-6:Nat):Int)<3):=by have:=hA.cap;omega
 have hq2:¬((h.Qc-6:Nat)<3):=by have:=hA.cap;omega
 clear hA z0;go_enter func177,ntmps177
 go_wp2_with fail
 refine KN.mono ?_;rintro e w1 ⟨rfl,rfl⟩;clear KN;go_wp2_with fail
 refine KL.mono ?_;rintro e w1 ⟨rfl,rfl⟩;clear KL;go_wp2_with fail
 refine(KC.out _).mono ?_;rintro e w2 ⟨A2,c2,rfl,ho,hb⟩;have HF:=DY (DZ ho hb);clear ho hb;go_wp2;go_ret;exact⟨A2,c2,rfl,HF.out.1,Qb HB HF.out.2⟩
theorem OG(w:World):Calls prog 62 #[.nilIface] w fun e w'=>e= .returned (.tuple #[])/\w=w':=by
 go_enter func62,ntmps62
 go_wp2;go_end0
 exact⟨rfl,rfl⟩
def auC(v:Value)(m:Nat)(s:Nat->Int)(fuel:Int)(bd br bm:Nat):Array Value:=
 #[v, .pointer (some ⟨m,0,none⟩), .int .i64 (s 0), .int .i64 (s 1), .int .i64 (s 2), .int .i64 (s 3), .int .i64 (s 4), .int .i64 (s 5), .int .i64 (s 6), .int .i64 (s 7), .int .i64 (s 8), .int .i64 (s 9), .int .i64 (s 10), .int .i64 fuel, .map (some bd), .map (some br), .map (some bm)]
structure Aud(w:World)(g base m:Nat)(s:Nat->Int)(fuel:Int)(bd br bm:Nat)(bad:Bool)(N nd nr nm:Nat)(fd fr fm:Int->Option Value)(v:Value):Prop where
 row:w.heap[g]?=some (.cells (auC v m s fuel bd br bm) 349)
 dmg:AuD w base v bad N
 d:Xm w bd nd fd
 r:Xm w br nr fr
 m:Xm w bm nm fm
 bs:base<=w.heap.size
 b0:0<base
 ge:base<=g
 de:base<=bd
 re:base<=br
 me:base<=bm
 dr:bd≠br
 dm:bd≠bm
 rm:br≠bm
section
variable {w w':World} {g base m:Nat} {s:Nat->Int} {fuel:Int} {bd br bm:Nat} {bad:Bool} {N nd nr nm:Nat} {fd fr fm:Int->Option Value} {v:Value}
theorem AuD.keep{base:Nat}{v:Value}(h:AuD w base v bad N)(hb:Below w.heap.size w w'):AuD w' base v bad N:=by
 obtain⟨dl,h1,h2,h3⟩:=h;exact⟨dl,Qk h1 hb,h2,h3⟩
theorem AuD.kept{base:Nat}{v:Value}{row:Option Nat}(h:AuD w base v bad N)(hg:w.grownBy w' row)(hr:∀b,row=some b->∀cs fz,w.heap[b]?≠some (.cells cs 79 fz)):AuD w' base v bad N:=by
 obtain⟨dl,h1,h2,h3⟩:=h;refine⟨dl,h1.kept hg ?_,h2,h3⟩;rcases h1.2 with⟨rfl,_⟩|⟨g',cap,cur,rfl,_,z0,_⟩
 ·exact .inl rfl
 ·refine .inr fun e=>?_
  have e:some g'=row:=by simpa[Value.ownBlock] using e
  exact hr g' e.symm _ _ z0
theorem AuD.more{base:Nat}{v:Value}{M:Nat}(h:AuD w base v bad N)(hm:N<=M):AuD w base v bad M:=by
 obtain⟨dl,h1,h2,h3⟩:=h;exact⟨dl,h1,h2,by omega⟩
theorem Aud.keep(h:Aud w g base m s fuel bd br bm bad N nd nr nm fd fr fm v)(hb:Below w.heap.size w w'):Aud w' g base m s fuel bd br bm bad N nd nr nm fd fr fm v:=
 ⟨Qe h.row hb,h.dmg.keep hb,h.d.keep hb,h.r.keep hb,h.m.keep hb,D3 h.bs hb.size,h.b0,h.ge,h.de,h.re,h.me,h.dr,h.dm,h.rm⟩
theorem Aud.moreN(h:Aud w g base m s fuel bd br bm bad N nd nr nm fd fr fm v){M:Nat}(hm:N<=M):Aud w g base m s fuel bd br bm bad M nd nr nm fd fr fm v:=
 ⟨h.row,h.dmg.more hm,h.d,h.r,h.m,h.bs,h.b0,h.ge,h.de,h.re,h.me,h.dr,h.dm,h.rm⟩
theorem Aud.added(h:Aud w g base m s fuel bd br bm bad N nd nr nm fd fr fm v){v':Value}{bad':Bool}{N':Nat}(hr:w'.heap[g]?=some (.cells ((auC v m s fuel bd br bm).setIfInBounds 0 v') 349))(hd:AuD w' base v' bad' N')(ht:Q3 g base w w'):
  Aud w' g base m s fuel bd br bm bad' N' nd nr nm fd fr fm v':=
 ⟨hr,hd,ht.vmap h.row h.d,ht.vmap h.row h.r,ht.vmap h.row h.m,D3 h.bs ht.size,h.b0,h.ge,h.de,h.re,h.me,h.dr,h.dm,h.rm⟩
theorem Aud.below(h:Aud w g base m s fuel bd br bm bad N nd nr nm fd fr fm v)(ht:Q3 g base w w'):Below base w w':=ht.below h.ge (Na _) h.bs
theorem Uy{b c:Nat}{cs:Array Value}{t:TypeId}{fz:Nat×Nat}(hg:w.grownBy w' (some b))(hc:w.heap[c]?=some (.cells cs t fz))(hne:c≠b):w'.heap[c]?=some (.cells cs t fz):=
 (hg.block c (D0.1 hc).1 (fun e=>hne (Nd e))).trans hc
theorem Xm.no_cells{b n:Nat}{f:Int->Option Value}(h:Xm w b n f)(cs:Array Value)(t:TypeId)(fz:Nat×Nat):w.heap[b]?≠some (.cells cs t fz):=fun e=>h.ne_cells e rfl
theorem Aud.put_d(h:Aud w g base m s fuel bd br bm bad N nd nr nm fd fr fm v){n':Nat}{f':Int->Option Value}(hv:Xm w' bd n' f')(hg:w.grownBy w' (some bd)):Aud w' g base m s fuel bd br bm bad N n' nr nm f' fr fm v:=
 ⟨Uy hg h.row (fun e=>h.d.no_cells _ _ _ (e▸h.row)),h.dmg.kept hg (fun b hb cs fz e=>by cases hb;exact h.d.no_cells _ _ _ e),hv,h.r.kept hg (fun e=>h.dr (Nd e).symm),h.m.kept hg (fun e=>h.dm (Nd e).symm),D3 h.bs hg.size,h.b0,h.ge,h.de,h.re,h.me,h.dr,h.dm,h.rm⟩
theorem Aud.put_r(h:Aud w g base m s fuel bd br bm bad N nd nr nm fd fr fm v){n':Nat}{f':Int->Option Value}(hv:Xm w' br n' f')(hg:w.grownBy w' (some br)):Aud w' g base m s fuel bd br bm bad N nd n' nm fd f' fm v:=
 ⟨Uy hg h.row (fun e=>h.r.no_cells _ _ _ (e▸h.row)),h.dmg.kept hg (fun b hb cs fz e=>by cases hb;exact h.r.no_cells _ _ _ e),h.d.kept hg (fun e=>h.dr (Nd e)),hv,h.m.kept hg (fun e=>h.rm (Nd e).symm),Nat.le_trans h.bs hg.size,h.b0,h.ge,h.de,h.re,h.me,h.dr,h.dm,h.rm⟩
theorem Aud.put_m(h:Aud w g base m s fuel bd br bm bad N nd nr nm fd fr fm v){n':Nat}{f':Int->Option Value}(hv:Xm w' bm n' f')(hg:w.grownBy w' (some bm)):Aud w' g base m s fuel bd br bm bad N nd nr n' fd fr f' v:=
 ⟨Uy hg h.row (fun e=>h.m.no_cells _ _ _ (e▸h.row)),h.dmg.kept hg (fun b hb cs fz e=>by cases hb;exact h.m.no_cells _ _ _ e),h.d.kept hg (fun e=>h.dm (Nd e)),h.r.kept hg (fun e=>h.rm (Nd e)),hv,Nat.le_trans h.bs hg.size,h.b0,h.ge,h.de,h.re,h.me,h.dr,h.dm,h.rm⟩
end
structure ScU(B:Nat)(st:WS)(w:World)(E0:Option Addr)(el E1:Nat)(F0:Option Addr)(fl F1:Nat):Prop where
 ee:el=st.ents.length
 e:w.ownsRow B 146 3 (.slice E0 el E1) el (ev st.ents)
 eb:el<=18000000
 f:∃ls:List Value,fl=ls.length/\w.ownsRow B 32 1 (.slice F0 fl F1) fl ls/\(∀u∈ls,Qy 40 w w.heap.size u)/\st.bad=decide (ls≠[])
 fb:fl<=19000001
section
variable {B:Nat} {st:WS} {w w':World} {E0:Option Addr} {el E1:Nat} {F0:Option Addr} {fl F1:Nat}
theorem ScU.keep(h:ScU B st w E0 el E1 F0 fl F1)(hb:Below w.heap.size w w'):ScU B st w' E0 el E1 F0 fl F1:=by
 obtain⟨ls,h1,h2,h3,h4⟩:=h.f;exact⟨h.ee,Qk h.e hb,h.eb,⟨ls,h1,QT h2 hb,fun u hu=>(h3 u hu).ext hb,h4⟩,h.fb⟩
theorem ScU.grown{r:Nat}{cs:Array Value}{t:TypeId}{fz:Nat×Nat}(h:ScU B st w E0 el E1 F0 fl F1)(hr:w.heap[r]?=some (.cells cs t fz))(h1:t≠146)(h2:t≠32)(h3:t≠179)(hg:w.grownBy w' (some r)):ScU B st w' E0 el E1 F0 fl F1:=by
 obtain⟨ls,a1,a2,a3,a4⟩:=h.f;exact⟨h.ee,h.e.kept hg (.inr (Qi hr h1 h.e).symm),h.eb,⟨ls,a1,a2.kept hg (.inr (Qi hr h2 a2).symm),fun u hu=>((a3 u hu).grown hr h3 hg).more hg.size,a4⟩,h.fb⟩
theorem ScU.mono{B':Nat}(h:ScU B st w E0 el E1 F0 fl F1)(hb:B'<=B):ScU B' st w E0 el E1 F0 fl F1:=by
 obtain⟨ls,a1,a2,a3,a4⟩:=h.f;exact⟨h.ee,QO h.e hb,h.eb,⟨ls,a1,Q7 a2 hb,a3,a4⟩,h.fb⟩
end
theorem O4{bs:List UInt8}{m base:Nat}(root tree fuel:Int)(hfu:fuel<=1000000)(w:World)(hi:ZH w base m bs)(hbs:base<=w.heap.size):
  Calls prog 122 #[.pointer (some ⟨m,0,none⟩), .int .i64 root, .int .i64 tree, .int .i64 fuel] w fun e w'=>
   ∃E0 el E1 B0 bl B1 d lk F0 fl F1,e= .returned (.agg #[.slice E0 el E1, .slice B0 bl B1, .int .i64 d, .int .i64 lk, .slice F0 fl F1])/\ScU w.heap.size (QP bs root tree fuel) w' E0 el E1 F0 fl F1/\Below w.heap.size w w':=by
 refine(scan_any root tree fuel hfu w (hi.more hbs)).mono ?_;rintro e w' ⟨q,hq,rfl,hs⟩;obtain⟨E0,E1,hE⟩:=QI hs.e;obtain⟨B0,B1,hB⟩:=QN hs.b;obtain⟨F0,F1,hF⟩:=QN hs.f;have h1:=hs.bnd.eb;have h2:=hs.bnd.l1;have h3:=hs.bnd.fb;refine⟨E0,q.st.ents.length,E1,B0,q.nb.length,B1,q.st.deep,q.st.looked,F0,q.fl.length,F1,by rw[hE,hB,hF],⟨by rw[hq],?_,by omega,⟨q.fl,rfl,?_,hs.fe,by rw[<-hq];exact hs.bad⟩,by omega⟩,hs.bel⟩
 ·have:=hs.e;rw[hE] at this;rw[<-hq];exact this
 ·have:=hs.f;rw[hF] at this;exact this
def ScB(w0:World)(st:WS)(s2:Value)(wx:World):Prop:=
 Below w0.heap.size w0 wx/\∃X E0 el E1 B0 bl B1 d lk F0 fl F1,s2= .pointer (some ⟨X,0,none⟩)/\wx.heap[X]?=some (.cells #[.slice E0 el E1, .slice B0 bl B1, .int .i64 d, .int .i64 lk, .slice F0 fl F1] 140)/\ScU w0.heap.size st wx E0 el E1 F0 fl F1
theorem Ve{w:World}{b c:Nat}{cs cs':Array Value}{t t':TypeId}{fz fz':Nat×Nat}(hb:w.heap[b]?=some (.cells cs t fz))(hc:w.heap[c]?=some (.cells cs' t' fz'))(ht:t≠t'):b≠c:=fun e=>by
 subst e;rw[hb] at hc;cases hc;exact ht rfl
theorem Gl{w:World}{B el E1:Nat}{E0:Option Addr}{es:List Qv}(h:w.ownsRow B 146 3 (.slice E0 el E1) el (ev es))(he:el=es.length){k:Nat}{y0 y2:Int}{y1:List UInt8}(hk:es[k]?=some ⟨y0,y1,y2⟩):∃b o,E0=some ⟨b,o,none⟩/\
  w.cell? ⟨b,o+k*3,none⟩=some (.int .i64 y0)/\w.cell? ⟨b,o+k*3+1,none⟩=some (.string ⟨y1.toArray⟩)/\w.cell? ⟨b,o+k*3+2,none⟩=some (.int .i64 y2):=by
 obtain⟨b,o,e,-,hc⟩:=Jz.of_own he h (by have:=(NG.1 hk).1;omega);obtain⟨h1,h2,h3⟩:=hc k _ hk;exact⟨b,o,e,h1,h2,h3⟩
theorem detOk_of{y0 y2:Int}{y1:List UInt8}(h:y0<=16777215):Z1 ⟨y0,y1,y2⟩=decide (rdE QU y1=0):=by unfold Z1;simp[h]
def GI(g base m:Nat)(s:Nat->Int)(fuel:Int)(bd br bm:Nat)(bad:Bool)(N nr nm:Nat)(fr fm:Int->Option Value)(B el E1:Nat)(E0:Option Addr)(es:List Qv)(w:World)(k:Nat)(W:World):Prop:=
 ∃v f N' n,Aud W g base m s fuel bd br bm (bad||!((es.take k).all Z1)) N' n nr nm f fr fm v/\N'<=N+k/\n<=k/\((bad||!((es.take k).all Z1))=false->f=Xq Jt (es.take k))/\Below base w W/\W.ownsRow B 146 3 (.slice E0 el E1) el (ev es)
section
variable {g base m:Nat} {s:Nat->Int} {fuel:Int} {bd br bm:Nat} {bad:Bool} {N nr nm:Nat} {fr fm:Int->Option Value} {B el E1:Nat} {E0:Option Addr} {es:List Qv} {w W W':World} {k:Nat}
theorem GI.no(h:GI g base m s fuel bd br bm bad N nr nm fr fm B el E1 E0 es w k W)(hk:k<es.length)(hd:Z1 es[k]=false){W1:World}(h1:Below W.heap.size W W1)
  {v v':Value} {N' n:Nat} {f:Int->Option Value} (ha:Aud W1 g base m s fuel bd br bm (bad||!((es.take k).all Z1)) N' n nr nm f fr fm v) (hn:n<=k) (hN:N'<=N+k)
  (hr:W'.heap[g]?=some (.cells ((auC v m s fuel bd br bm).setIfInBounds 0 v') 349)) (hdm:AuD W' base v' true (N'+1)) (ht:Q3 g base W1 W'):
  GI g base m s fuel bd br bm bad N nr nm fr fm B el E1 E0 es w (k+1) W':=by
 obtain⟨_,_,_,_,hA,-,-,-,h5,h6⟩:=h;have hb:(bad||!((es.take (k+1)).all Z1))=true:=by rw[XP _ hk,hd];simp
 refine⟨v',f,N'+1,n,?_,by omega,by omega,fun e=>(by rw[hb] at e;cases e),(h5.trans (h1.mono hA.bs)).trans (ht.below ha.ge (Na _) ha.bs),ht.own ha.row (Qk h6 h1) (by decide) (by decide)⟩
 rw[hb];exact ha.added hr hdm ht
theorem GI.yes(h:GI g base m s fuel bd br bm bad N nr nm fr fm B el E1 E0 es w k W)(hk:k<es.length)(hd:Z1 es[k]=true)(hp:(Qp es).Pairwise (·<·)){W1:World}(h1:Below W.heap.size W W1)
  {v:Value} {N' n:Nat} {f f':Int->Option Value} (ha:Aud W1 g base m s fuel bd br bm (bad||!((es.take k).all Z1)) N' n nr nm f fr fm v) (hn:n<=k) (hN:N'<=N+k) (hf:(bad||!((es.take k).all Z1))=false->f=Xq Jt (es.take k))
  (hv:Xm W' bd (n+1) f') (hff:f'=fun y=>if y=es[k].key then some (Jt es[k]) else f y) (hg:W1.grownBy W' (some bd)):
  GI g base m s fuel bd br bm bad N nr nm fr fm B el E1 E0 es w (k+1) W':=by
 obtain⟨_,_,_,_,hA,-,-,-,h5,h6⟩:=h;have hb:(bad||!((es.take (k+1)).all Z1))=(bad||!((es.take k).all Z1)):=by rw[XP _ hk,hd,Bool.and_true]
 refine⟨v,f',N',n+1,?_,by omega,by omega,fun e=>?_,((h5.trans (h1.mono hA.bs))).grown hg (D3 hA.bs h1.size|>D3 (Na _)) (fun i hi=>by cases hi;exact ha.de),(Qk h6 h1).kept hg (.inr (ha.d.not_row (Qk h6 h1)).symm)⟩
 ·rw[hb];exact ha.put_d hv hg
 ·rw[hb] at e;rw[hff,hf e,Nl hk];exact Gg (RQ hp hk)
end
section
open Go.WideMaps Go.Maps
def RgI(b r n:Nat)(D:DataW Value)(f:Int->Option Value)(l0:List Int)(base:Nat)(W0:World)(u:Value)(wr:World):Prop:=
 ∃(left:Lit->Bool) (cnt:Nat) (l:List Int),wr.ranges prog 3 X6 b r n D left cnt/\l.length+cnt<=n/\wr.ownsRow base 3 1 u (l0++l).length (iv (l0++l))/\(∀x∈l,(f x).isSome=true)/\
  (∀x,(f x).isSome=true->x∈l∨left (.int .i64 x)=true)/\(∀x,left (.int .i64 x)=true->(f x).isSome=true)/\Below base W0 wr
theorem Xm.owns{w:World}{b n:Nat}{f:Int->Option Value}(h:Xm w b n f):∃D:DataW Value,w.ownsMap prog 3 X6 b n D/\Maps.size D<=n/\∀x:Int,Maps.has D (.int .i64 x)=(f x).isSome:=by
 obtain⟨D,h1,h2⟩:=h;exact⟨D,h1,h1.size_le,fun x=>(h2 x).1⟩
theorem int_inv(key:Value)(kl:Lit)(h:keyOf prog 3 key=some kl):∃x,key=Value.int .i64 x:=by
 obtain⟨x,rfl,-⟩:=Maps.keyOf_int_inv underlying3 h;exact⟨x,rfl⟩
theorem G5(v:Value)(y:DataW Value×List MemPlace)(_:X6 v=some y):∃c,v=id c:=⟨v,rfl⟩
theorem OP(d:Array Int)(hs:∀i j,i<=j->j<d.size->d[i]!<=d[j]!):∀m,m<=d.size->(Lib.compactUpTo d m).Pairwise (·<·)/\(∀x,x∈Lib.compactUpTo d m↔∃j,j<m/\d[j]! =x)/\(Lib.compactUpTo d m).length<=m
 |0,_=>by simp[Lib.compactUpTo]
 |m+1,hm=>by
  obtain⟨h1,h2,h3⟩:=OP d hs m (by omega);rw[Lib.compactUpTo_succ];by_cases hk:Lib.keeps d m=true
  ·rw[if_pos hk];refine⟨List.pairwise_append.2 ⟨h1,by simp,fun x hx y hy=>?_⟩,fun x=>?_,by simp;omega⟩
   ·obtain⟨j,hj,rfl⟩:=(h2 x).1 hx;obtain rfl:y=d[m]!:=by simpa using hy
    have h4:=hs j m (by omega) (by omega);rcases Int.lt_or_eq_of_le h4 with h5|h5
    ·exact h5
    ·exfalso
     have h6:=hs j (m-1) (by omega) (by omega);have h7:=hs (m-1) m (by omega) (by omega);unfold Lib.keeps at hk;rw[decide_eq_true_iff] at hk;rcases hk with hk|hk
     ·omega
     ·exact hk (by omega)
   ·rw[NY,h2];constructor
    ·rintro(⟨j,hj,rfl⟩|h)
     ·exact⟨j,by omega,rfl⟩
     ·have h:x=d[m]!:=by simpa using h
      exact⟨m,by omega,h.symm⟩
    ·rintro⟨j,hj,rfl⟩;rcases NC j m with h|h
     ·exact .inl ⟨j,h,rfl⟩
     ·obtain rfl:j=m:=by omega
      exact .inr (by simp)
  ·rw[if_neg hk,NZ];refine⟨h1,fun x=>?_,by omega⟩
   rw[h2];constructor
   ·rintro⟨j,hj,rfl⟩;exact⟨j,by omega,rfl⟩
   ·rintro⟨j,hj,rfl⟩;rcases NC j m with h|h
    ·exact⟨j,h,rfl⟩
    ·obtain rfl:j=m:=by omega
     unfold Lib.keeps at hk;rw[decide_eq_true_iff] at hk;have h0:j≠0:=fun e=>hk (.inl e)
     have he:d[j]! =d[j-1]!:=Classical.byContradiction fun e=>hk (.inr e)
     exact⟨j-1,by omega,he.symm⟩
def YU(l:List Int):List Int:=l.mergeSort fun x y=>decide (x<=y)
def idsL(l:List Int):List Int:=Lib.compact (YU l)
theorem O1(l:List Int):(YU l).length=l.length:=by unfold YU;simp
theorem EE(l:List Int):(idsL l).Pairwise (·<·)/\(∀x,x∈idsL l↔x∈l)/\(idsL l).length<=l.length:=by
 have hp:(YU l).Pairwise (fun x y=>x<=y):=by
  have:=List.pairwise_mergeSort (le:=fun x y:Int=>decide (x<=y)) (fun a b c h1 h2=>by simp at*;omega) (fun a b=>by simp;omega) l;exact this.imp (fun h=>by simpa using h)
 have z0:(YU l).toArray.size=(YU l).length:=by simp
 have hg:∀i (h:i<(YU l).length),(YU l).toArray[i]! =(YU l)[i]:=fun i h=>by simp[h]
 obtain⟨h1,h2,h3⟩:=OP (YU l).toArray (fun i j hij hj=>by
  rw[z0] at hj;rw[hg i (by omega),hg j hj];rcases NC i j with h|h
  ·exact List.pairwise_iff_getElem.1 hp i j (by omega) hj h
  ·obtain rfl:i=j:=by omega
   exact Int.le_refl _) (YU l).length (by simp)
 refine⟨h1,fun x=>?_,by unfold idsL Lib.compact;exact Nat.le_trans h3 (Nat.le_of_eq (O1 l))⟩
 unfold idsL Lib.compact;rw[h2];have hm:x∈YU l↔x∈l:=by unfold YU;exact List.mem_mergeSort
 rw[<-hm];constructor
 ·rintro⟨j,hj,rfl⟩;rw[hg j hj];exact Nm hj
 ·intro h;obtain⟨j,hj,rfl⟩:=List.mem_iff_getElem.1 h;exact⟨j,hj,hg j hj⟩
end
section
open Go.Sort Go.Shelf
theorem own_short{w:World}{base e n k c:Nat}{A:Option Addr}{xs:List Value}(h:w.ownsRow base e 1 (.slice A n c) n xs)(hk:k<=n)(h0:A≠none∨k=0/\c=0):w.ownsRow base e 1 (.slice A k c) k (xs.take k):=by
 have hl:=h.1;refine⟨by rw[Ni];omega,?_⟩
 rcases h.2 with⟨hv,hn⟩|⟨g,cap,z0,hv,h1,h2,h3,h4,h5,h6⟩
 ·injection hv with a b c'
  subst a;rcases h0 with h0|⟨rfl,rfl⟩
  ·exact absurd rfl h0
  ·exact .inl ⟨rfl,rfl⟩
 ·injection hv with a b c'
  subst a;subst c';refine .inr ⟨g,c,z0,rfl,h1,h2,by omega,h4,h5,?_⟩
  rw[<-h6,List.take_take]
  congr 1
  omega
theorem Eo{w:World}{base e n:Nat}{u:Value}{xs:List Value}(h:w.ownsRow base e 1 u n xs):(u= .slice none 0 0/\n=0)∨∃g z0 z1,u= .slice (some ⟨g,0,none⟩) n z0/\base<=g/\w.heap[g]?=some (.cells z1 e (0,0))/\n<=z0/\z0<=maxLen/\z1.size=z0*1/\z1.toList.take n=xs:=by
 rcases h.2 with⟨hv,hn⟩|⟨g,z0,z1,hv,h1,h2,h3,h4,h5,h6⟩
 ·exact .inl ⟨hv,hn⟩
 ·exact .inr ⟨g,z0,z1,hv,h1,h2,h3,h4,h5,by rw[<-h6,NE]⟩
def E9:Go.Shelf.Ren:=⟨fun|189=>261|125=>272|257=>271|128=>283|129=>284|294=>274|295=>275|296=>276|297=>277|298=>278|299=>279|216=>280|300=>281|301=>282|328=>285|329=>286|330=>287|331=>288|332=>289|215=>158|343=>290|n=>n,fun|28=>68|3=>3|46=>212|0=>0|51=>53|53=>359|4=>4|183=>429|182=>428|131=>390|5=>5|9=>9|218=>436|222=>259|228=>441|229=>219|n=>n,fun|n=>n⟩
theorem sortLays:Go.Proofs.Lays.n189 prog E9:={
 mixed:=by kernel_rfl
 f125:=func272.trans (congrArg some (by kernel_rfl))
 f128:=func283.trans (congrArg some (by kernel_rfl))
 f129:=func284.trans (congrArg some (by kernel_rfl))
 f189:=func261.trans (congrArg some (by kernel_rfl))
 f215:=func158.trans (congrArg some (by kernel_rfl))
 f216:=func280.trans (congrArg some (by kernel_rfl))
 f257:=func271.trans (congrArg some (by kernel_rfl))
 f294:=func274.trans (congrArg some (by kernel_rfl))
 f295:=func275.trans (congrArg some (by kernel_rfl))
 f296:=func276.trans (congrArg some (by kernel_rfl))
 f297:=func277.trans (congrArg some (by kernel_rfl))
 f298:=func278.trans (congrArg some (by kernel_rfl))
 f299:=func279.trans (congrArg some (by kernel_rfl))
 f300:=func281.trans (congrArg some (by kernel_rfl))
 f301:=func282.trans (congrArg some (by kernel_rfl))
 f328:=func285.trans (congrArg some (by kernel_rfl))
 f329:=func286.trans (congrArg some (by kernel_rfl))
 f330:=func287.trans (congrArg some (by kernel_rfl))
 f331:=func288.trans (congrArg some (by kernel_rfl))
 f332:=func289.trans (congrArg some (by kernel_rfl))
 f343:=func290.trans (congrArg some (by kernel_rfl))
 t0:=underlying0
 a0:=Tryz.isAgg0
 z0:=Tryz.sizeOf0
 v0:=Tryz.zeroValue0
 t3:=underlying3
 a3:=Tryz.isAgg3
 z3:=Tryz.sizeOf3
 v3:=Tryz.zeroValue3
 t4:=underlying4
 a4:=Tryz.isAgg4
 z4:=Tryz.sizeOf4
 v4:=Tryz.zeroValue4
 t5:=underlying5
 a5:=Tryz.isAgg5
 z5:=Tryz.sizeOf5
 v5:=Tryz.zeroValue5
 t9:=underlying9
 a9:=Tryz.isAgg9
 z9:=Tryz.sizeOf9
 v9:=Tryz.zeroValue9
 t28:=underlying68
 a28:=Tryz.isAgg68
 z28:=Tryz.sizeOf68
 v28:=Tryz.zeroValue68
 t46:=underlying212
 a46:=Tryz.isAgg212
 z46:=Tryz.sizeOf212
 v46:=Tryz.zeroValue212
 t51:=underlying53
 a51:=Tryz.isAgg53
 z51:=Tryz.sizeOf53
 v51:=Tryz.zeroValue53
 t53:=underlying359
 a53:=Tryz.isAgg359
 z53:=Tryz.sizeOf359
 v53:=Tryz.zeroValue359
 t131:=underlying390
 a131:=Tryz.isAgg390
 z131:=Tryz.sizeOf390
 v131:=Tryz.zeroValue390
 t182:=underlying428
 a182:=Tryz.isAgg428
 z182:=Tryz.sizeOf428
 v182:=Tryz.zeroValue428
 t183:=underlying429
 a183:=Tryz.isAgg429
 z183:=Tryz.sizeOf429
 v183:=Tryz.zeroValue429
 t218:=underlying436
 a218:=Tryz.isAgg436
 z218:=Tryz.sizeOf436
 v218:=Tryz.zeroValue436
 t222:=underlying259
 a222:=Tryz.isAgg259
 z222:=Tryz.sizeOf259
 v222:=Tryz.zeroValue259
 t228:=underlying441
 a228:=Tryz.isAgg441
 z228:=Tryz.sizeOf441
 v228:=Tryz.zeroValue441
 t229:=underlying219
 a229:=Tryz.isAgg219
 z229:=Tryz.sizeOf219
 v229:=Tryz.zeroValue219}
def Rd:Go.Shelf.Ren:=⟨fun|20=>262|n=>n,fun|22=>68|3=>3|4=>4|0=>0|n=>n,fun|n=>n⟩
theorem Kx:Go.Proofs.Lays2.n20 prog Rd:={
 mixed:=by kernel_rfl
 f20:=func262.trans (congrArg some (by kernel_rfl))
 t0:=underlying0
 a0:=Tryz.isAgg0
 z0:=Tryz.sizeOf0
 v0:=Tryz.zeroValue0
 t3:=underlying3
 a3:=Tryz.isAgg3
 z3:=Tryz.sizeOf3
 v3:=Tryz.zeroValue3
 t4:=underlying4
 a4:=Tryz.isAgg4
 z4:=Tryz.sizeOf4
 v4:=Tryz.zeroValue4
 t22:=underlying68
 a22:=Tryz.isAgg68
 z22:=Tryz.sizeOf68
 v22:=Tryz.zeroValue68
 i3:=by kernel_rfl}
theorem sortI_any{w:World}{base:Nat}{u:Value}{l:List Int}(h:w.ownsRow base 3 1 u l.length (iv l))(hm:l.length<=1000000000):
  Calls prog 261 #[u] w fun e w'=>e= .returned (.tuple #[])/\w'.ownsRow base 3 1 u l.length (iv (YU l))/\w.grownBy w' u.ownBlock:=by
 rcases Eo h with⟨rfl,hn⟩|⟨g,z0,cur,rfl,h1,h2,h3,h4,h5,h6⟩
 ·have hl:l=[]:=Lp.1 hn;subst hl;refine(Any.slices_Sort_int_none sortLays none 0 w).mono ?_;rintro e w' ⟨rfl,rfl⟩;exact⟨rfl,by simpa[YU] using h,NT _ _⟩
 ·refine(Any.slices_Sort_int sortLays g 0 z0 l w (holds_of_blockI h2 h6) (D0.1 h2).1 (by omega)).mono ?_;rintro e w' ⟨rfl,q,os,rfl⟩;exact⟨rfl,ownsRow_sortedI (O1 l) h1 h2 h3 h4 h5,grownBy_sortedI _⟩
theorem compact_len(l:List Int):(Lib.compact l).length<=l.length:=by
 unfold Lib.compact Lib.compactUpTo;rw[NN];exact D3 (List.length_filter_le _ _) (by simp)
theorem DF{w:World}{base:Nat}{u:Value}{l:List Int}(h:w.ownsRow base 3 1 u l.length (iv l))(hm:l.length<=1000000000):
  Calls prog 262 #[u] w fun e w'=>∃A c,e= .returned (.slice A (Lib.compact l).length c)/\w'.ownsRow base 3 1 (.slice A (Lib.compact l).length c) (Lib.compact l).length (iv (Lib.compact l))/\w.grownBy w' u.ownBlock:=by
 have z1:=compact_len l;rcases Eo h with⟨rfl,hn⟩|⟨g,z2,cur,rfl,h1,h2,h3,h4,h5,h6⟩
 ·have hl:l=[]:=Lp.1 hn;subst hl;refine(Any.slices_Compact_int_empty Kx none 0 w).mono ?_;rintro e w' ⟨rfl,rfl⟩;exact⟨none,0,rfl,Nb _ _ _ _,NT _ _⟩
 ·refine(Any.slices_Compact_int Kx g 0 z2 l w (holds_of_blockI h2 h6) (by omega) h3).mono ?_;rintro e w' ⟨rfl,q,rfl⟩;have z0:(Lib.compact l++List.replicate (l.length-(Lib.compact l).length) (0:Int)).length=l.length:=by simp;omega
  have ho:=ownsRow_sortedI (n:=q) (os:=#[]) z0 h1 h2 h3 h4 h5;have hg:=grownBy_sortedI (w:=w) (g:=g) (n:=q) (os:=#[]) (Lib.compact l++List.replicate (l.length-(Lib.compact l).length) (0:Int)).toArray;rw[grow_empty] at ho hg;have hs:=own_short ho z1 (.inl (by simp));rw[<-List.map_take,List.take_left] at hs;exact⟨_,_,rfl,hs,hg⟩
end
section
open Go.WideMaps Go.Maps
theorem Tryz.infoIntA:(prog.info? 3).map (fun i=>(i.zero,i.size,i.bytes))=some (some (.int .i64 0),1,8):=by kernel_rfl
theorem JZ{w:World}{b r n:Nat}{D:DataW Value}{left:Lit->Bool}{cnt:Nat}(h:w.ranges prog 3 X6 b r n D left cnt){B e s k:Nat}{v:Value}{xs:List Value}(ho:w.ownsRow B e s v k xs):some b≠v.ownBlock/\some r≠v.ownBlock:=by
 obtain⟨es,clock,since,seen,c0,hb,F,hs,rfl,hr,-⟩:=h;rcases ho.2 with⟨rfl,_⟩|⟨g,cap,cur,rfl,_,hg,_⟩
 ·simp[Value.ownBlock]
 ·constructor<;>intro e
  ·obtain rfl:b=g:=by simpa[Value.ownBlock] using e
   rw[hg] at hb;cases hb
  ·obtain rfl:r=g:=by simpa[Value.ownBlock] using e
   rw[hg] at hr;cases hr
section
variable {b r n:Nat} {D:DataW Value} {f:Int->Option Value} {l0:List Int} {base:Nat} {W0:World} {u:Value} {wr:World}
theorem RgI.own1{left:Lit->Bool}{cnt:Nat}{xs:List Value}{k:Nat}{w1:World}(hrg0:wr.ranges prog 3 X6 b r n D left cnt)(h3:wr.ownsRow base 3 1 u k xs)(hg1:wr.grownBy w1 (some r)):w1.ownsRow base 3 1 u k xs:=
 h3.kept hg1 (.inr (JZ hrg0 h3).2.symm)
theorem RgI.step{left:Lit->Bool}{cnt cnt1:Nat}{l:List Int}{x:Int}{w1 w3:World}{u':Value}(hrg0:wr.ranges prog 3 X6 b r n D left cnt)(h2:l.length+cnt<=n)(h3:wr.ownsRow base 3 1 u (l0++l).length (iv (l0++l)))(h4:∀x∈l,(f x).isSome=true)(h5:∀x,(f x).isSome=true->x∈l∨left (.int .i64 x)=true)(h6:∀x,left (.int .i64 x)=true->(f x).isSome=true)(h7:Below base W0 wr)
  (hx:left (.int .i64 x)=true) (hr:base<=r) (hbs:base<=wr.heap.size) (hrg:w1.ranges prog 3 X6 b r n D (fun z=>left z&&!z.sameKey (.int .i64 x)) cnt1) (hlt:cnt1<cnt) (hg1:wr.grownBy w1 (some r)) (o:Obj)
  (hown:w3.ownsRow base 3 1 u' ((l0++l).length+1) (iv (l0++l)++[.int .i64 x])) (hg3:(w1.alloc o).grownBy w3 u.ownBlock):
  RgI b r n D f l0 base W0 u' w3/\w3.rangeLeft b r=cnt1:=by
 have z1:=RgI.own1 hrg0 h3 hg1;have z0:=JZ hrg z1;have e:l0++(l++[x])=(l0++l)++[x]:=by simp
 refine⟨⟨_,cnt1,l++[x],(hrg.alloc o).kept hg3 z0.1 z0.2,by simp;omega,?_,fun y hy=>?_,fun y hy=>?_,fun y hy=>?_,?_⟩,((hrg.alloc o).kept hg3 z0.1 z0.2).left_eq⟩
 ·rw[e,show((l0++l)++[x]).length=(l0++l).length+1 by rw[D7];rfl,show iv ((l0++l)++[x])=iv (l0++l)++[.int .i64 x] by simp[iv]]
  exact hown
 ·rcases NY.1 hy with hy|hy
  ·exact h4 y hy
  ·obtain rfl:y=x:=by simpa using hy
   exact h6 _ hx
 ·rcases h5 y hy with h|h
  ·exact .inl (List.mem_append_left _ h)
  ·by_cases hyx:y=x
   ·subst hyx;exact .inl (List.mem_append_right _ (by simp))
   ·refine .inr ?_;rw[h];simp[Lit.sameKey,hyx]
 ·simp only[Nu] at hy;exact h6 y hy.1
 ·exact((h7.grown hg1 hbs (fun i hi=>by cases hi;exact hr)).alloc (D3 hbs hg1.size) o).grown hg3 (D3 hbs (D3 hg1.size (Qd w1 o).size)) (fun i hi=>(z1.lt i hi).1)
end
end
end Go.Proofs.YtijcgllddnpmhaaGreatDoor
