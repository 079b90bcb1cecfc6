/- TopSound: lemmas, part 42. -/
import Derived.Test.YtijcgllddnpmhaaGreatDoorTopSoundT41
set_option maxRecDepth 100000
set_option maxHeartbeats 16000000
set_option linter.all false
namespace Go.Proofs.YtijcgllddnpmhaaGreatDoor
open Go.RowKit Go.Proofs.Tryz
structure Fd where
 a:Nat->Int
 p0:Int
 p1:Int
 p2:Int
 p3:Int
 PA:Option Addr
 Pn:Nat
 Pc:Nat
 DA:Option Addr
 Dn:Nat
 Dc:Nat
 MA:Option Addr
 Mn:Nat
 Mc:Nat
def Fd.cells(f:Fd)(X:Value):Array Value:=fdC f.a f.p0 f.p1 f.p2 f.p3 (.slice f.PA f.Pn f.Pc) (.slice f.DA f.Dn f.Dc) (.slice f.MA f.Mn f.Mc) X
def fd0:Fd:=⟨fun _=>0,0,0,0,0,none,0,0,none,0,0,none,0,0⟩
structure LkW(bs:List UInt8)(m base g b:Nat)(f:Fd)(X:Value)(W:World):Prop where
 img:ZH W base m bs
 bs:base<=W.heap.size
 err:XC W
 row:W.heap[g]?=some (.cells (f.cells X) 76)
 m:W.cell? ⟨b,0,none⟩=some (.pointer (some ⟨m,0,none⟩))
 fuel:W.cell? ⟨b+1,0,none⟩=some (.int .i64 1000000)
theorem LkW.ext{bs:List UInt8}{m base g b:Nat}{f:Fd}{X:Value}{V W:World}(h:LkW bs m base g b f X V)(hb:Below V.heap.size V W):LkW bs m base g b f X W:=
 ⟨h.img.below (hb.mono h.bs),D3 h.bs hb.size,h.err.below hb,Qe h.row hb,Qg hb h.m,Qg hb h.fuel⟩
structure LkS(B g:Nat)(w1 V:World)(f:Fd)(dl:List S3)(A:Option Addr)(c N:Nat):Prop where
 row:V.heap[g]?=some (.cells (f.cells (.slice A dl.length c)) 76)
 own:V.ownsRow B 79 3 (.slice A dl.length c) dl.length (tv dl)
 add:Q3 g B w1 V
 n:dl.length<=N
theorem LkS.mid{B g:Nat}{w1 V W W':World}{f:Fd}{dl dl2:List S3}{A:Option Addr}{c N:Nat}{e:Ending}(h:LkS B g w1 V f dl A c N)(hVW:Below V.heap.size V W)(hst:StR W W' g e dl2):W'.ownsRow B 79 3 (.slice A dl.length c) dl.length (tv dl):=by
 obtain⟨A2,c2,-,-,-,hg⟩:=hst;have ho:=Qk h.own hVW;exact ho.kept hg (.inr (Qi (Qe h.row hVW) (by decide) ho).symm)
theorem fd_dmg{W:World}{b:Nat}{f:Fd}{X:Value}(h:W.heap[b]?=some (.cells (f.cells X) 76))(Q:Value):(W.setCell ⟨b,18,none⟩ Q).heap[b]?=some (.cells (f.cells Q) 76):=by
 rw[heap_setCell_same W b 18 _ _ Q h];unfold Fd.cells fdC;simp only[Nc,Nf,Ng]
theorem LkS.step{B g:Nat}{w1 V W W' W7:World}{f f':Fd}{dl dl2:List S3}{A A7:Option Addr}{c c7 N:Nat}{e:Ending}(h:LkS B g w1 V f dl A c N)(hVW:Below V.heap.size V W)(hst:StR W W' g e dl2)(hr:W'.heap[g]?=some (.cells (f'.cells (.slice A dl.length c)) 76))
  (hg7:W'.grownBy W7 (Value.slice A dl.length c).ownBlock) (ho7:W7.ownsRow B 79 3 (.slice A7 (dl.length+dl2.length) c7) (dl.length+dl2.length) (tv dl++tv dl2)):
  LkS B g w1 (W7.setCell ⟨g,18,none⟩ (.slice A7 (dl.length+dl2.length) c7)) f' (dl++dl2) A7 c7 (N+1000000000000)/\Q3 g B V (W7.setCell ⟨g,18,none⟩ (.slice A7 (dl.length+dl2.length) c7))/\Q3 g B W' (W7.setCell ⟨g,18,none⟩ (.slice A7 (dl.length+dl2.length) c7)):=by
 have hm:=h.mid hVW hst;obtain⟨A2,c2,-,hn2,-,hg⟩:=hst;have z0:W7.heap[g]?=some (.cells (f'.cells (.slice A dl.length c)) 76):=(hg7.block g (D0.1 hr).1 (Qi hr (by decide) hm)).trans hr;have z1:=Qo W7 g 18 (.slice A7 (dl.length+dl2.length) c7);have h1:Q3 g B W' (W7.setCell ⟨g,18,none⟩ (.slice A7 (dl.length+dl2.length) c7)):=(Q3.of_grown hg7 hm).trans (Q3.of_own z1);have h2:Q3 g B V (W7.setCell ⟨g,18,none⟩ (.slice A7 (dl.length+dl2.length) c7)):=(Q3.of_below hVW).trans ((Q3.of_own hg).trans h1);refine⟨⟨?_,?_,h.add.trans h2,?_⟩,h2,h1⟩
 ·rw[D7];exact fd_dmg z0 _
 ·rw[D7,OY];exact ho7.kept z1 (.inr (Qi z0 (by decide) ho7).symm)
 ·rw[D7];have:=h.n;omega
def DvK(bs:List UInt8)(B:Nat)(V:World)(f:Fd):Prop:=
 ∃ls,QY bs (f.a 5) (f.a 6) (f.a 3) 1000000=some ls/\f.Pn=ls.length/\f.p0=f.a 0/\f.p1=f.a 1/\f.p2=f.a 2/\f.p3=f.a 3/\Qt V B (.slice f.PA ls.length f.Pc) ls
def IvK(q:Option (List Int))(B:Nat)(V:World)(A:Option Addr)(n c:Nat):Prop:=
 ∃l:List Int,q=some l/\n=l.length/\V.ownsRow B 3 1 (.slice A l.length c) l.length (iv l)
theorem DvK.added{bs:List UInt8}{B B' g:Nat}{V U:World}{f:Fd}{gc:Array Value}{gz:Nat×Nat}(h:DvK bs B V f)(hg:V.heap[g]?=some (.cells gc 76 gz))(ht:Q3 g B' V U):DvK bs B U f:=by
 obtain⟨ls,h1,h2,h3,h4,h5,h6,us,e,ho,hx⟩:=h;exact⟨ls,h1,h2,h3,h4,h5,h6,us,e,ht.own hg ho (by decide) (by decide),fun x u hu=>ht.own hg (hx x u hu) (by decide) (by decide)⟩
theorem IvK.added{q:Option (List Int)}{B B' g n c:Nat}{A:Option Addr}{V U:World}{gc:Array Value}{gz:Nat×Nat}(h:IvK q B V A n c)(hg:V.heap[g]?=some (.cells gc 76 gz))(ht:Q3 g B' V U):IvK q B U A n c:=by
 obtain⟨l,h1,h2,h3⟩:=h;exact⟨l,h1,h2,ht.own hg h3 (by decide) (by decide)⟩
theorem Y6{bs:List UInt8}{a:Nat->Int}(h:QZ bs=some a):Zc bs=(QY bs (a 5) (a 6) (a 3) 1000000).bind fun ls=>(Xu bs (a 7) (a 8) (a 3) 1000000).bind fun l=>(X3 bs (a 9) (a 10) (a 4) 1000000).bind fun q=>(XJ bs a).bind fun c=>
  if(Zl l (Yk ⟨a 0,a 1,a 2,a 3,ls⟩)).length=0/\(Zl q c).length=0 then some (⟨a 0,a 1,a 2,a 3,ls⟩,a) else none:=by
 unfold Zc Vf;rw[h,Option.bind_some];cases QY bs (a 5) (a 6) (a 3) 1000000<;>rfl
theorem checkP_none{bs:List UInt8}(h:QZ bs=none):Zc bs=none:=by
 unfold Zc Vf;rw[h]
 rfl
theorem J6:∀{cs:List Nat} {x:Nat},x∈cs->x<=cs.sum
 |c::r,x,h=>by
  rw[Lu];rcases Nt.1 h with rfl|h
  ·omega
  ·have:=J6 h;omega
theorem devs_bnd{bs:List UInt8}{a:Nat->Int}(h:QZ bs=some a){ls:List Q4}(hd:QY bs (a 5) (a 6) (a 3) 1000000=some ls):Xx ⟨a 0,a 1,a 2,a 3,ls⟩=true/\ls.length<=4096/\ZL ⟨a 0,a 1,a 2,a 3,ls⟩<=16384/\∀d∈ls,d.maps.length<=16384:=by
 have h1:Vf bs 1000000=some (⟨a 0,a 1,a 2,a 3,ls⟩,a):=by
  unfold Vf;rw[h,Option.bind_some,hd]
  rfl
 have h2:=(Dp h1).2.1;have h3:=h2;unfold Xx at h3;simp only[Nu,decide_eq_true_iff] at h3;obtain⟨-,-,-,-,h4,h5,-⟩:=h3;refine⟨h2,h4,h5,fun d hd=>?_⟩
 have h6:d.maps.length∈ls.map fun d=>d.maps.length:=Lc hd
 exact D3 (J6 h6) h5
def LkR(bs:List UInt8)(B p k:Nat)(V:World)(f:Fd)(dl:List S3):Prop:=
 (p=0/\(k=0->dl=[])/\(1<=k->(QZ bs=some f.a/\dl=[])∨(QZ bs=none/\dl≠[])))∨
 (p=1/\QZ bs=some f.a/\((dl=[]/\(1<=k->DvK bs B V f)/\(2<=k->IvK (Xu bs (f.a 7) (f.a 8) (f.a 3) 1000000) B V f.DA f.Dn f.Dc)/\(3<=k->IvK (X3 bs (f.a 9) (f.a 10) (f.a 4) 1000000) B V f.MA f.Mn f.Mc))∨(dl≠[]/\Zc bs=none)))∨
 (p=2/\QZ bs=some f.a/\DvK bs B V f/\IvK (Xu bs (f.a 7) (f.a 8) (f.a 3) 1000000) B V f.DA f.Dn f.Dc/\IvK (X3 bs (f.a 9) (f.a 10) (f.a 4) 1000000) B V f.MA f.Mn f.Mc/\
  ((dl=[]/\(1<=k->∀ls l,QY bs (f.a 5) (f.a 6) (f.a 3) 1000000=some ls->Xu bs (f.a 7) (f.a 8) (f.a 3) 1000000=some l->(Zl l (Yk ⟨f.a 0,f.a 1,f.a 2,f.a 3,ls⟩)).length=0)/\
   (2<=k->∀q,X3 bs (f.a 9) (f.a 10) (f.a 4) 1000000=some q->∃c,XJ bs f.a=some c/\(Zl q c).length=0))∨(dl≠[]/\Zc bs=none)))
def LkE(bs:List UInt8)(B p:Nat)(V:World)(f:Fd)(dl:List S3):Prop:=
 (dl≠[]/\Zc bs=none)∨(dl=[]/\(1<=p->QZ bs=some f.a)/\
  (2<=p->DvK bs B V f/\IvK (Xu bs (f.a 7) (f.a 8) (f.a 3) 1000000) B V f.DA f.Dn f.Dc/\IvK (X3 bs (f.a 9) (f.a 10) (f.a 4) 1000000) B V f.MA f.Mn f.Mc)/\
  (3<=p->∃ls,Zc bs=some (⟨f.a 0,f.a 1,f.a 2,f.a 3,ls⟩,f.a)/\QY bs (f.a 5) (f.a 6) (f.a 3) 1000000=some ls))
theorem LkE.enter{bs:List UInt8}{B p:Nat}{V:World}{f:Fd}{dl:List S3}(h:LkE bs B p V f dl)(hd:dl=[])(hp:p<3):LkR bs B p 0 V f dl:=by
 rcases h with⟨h,-⟩|⟨-,h1,h2,h3⟩
 ·exact absurd hd h
 ·rcases(show p=0∨p=1∨p=2 by omega) with rfl|rfl|rfl
  ·exact .inl ⟨rfl,fun _=>hd,fun h=>absurd h (by omega)⟩
  ·exact .inr (.inl ⟨rfl,h1 (by omega), .inl ⟨hd,fun h=>absurd h (by omega),fun h=>absurd h (by omega),fun h=>absurd h (by omega)⟩⟩)
  ·obtain⟨e1,e2,e3⟩:=h2 (by omega);exact .inr (.inr ⟨rfl,h1 (by omega),e1,e2,e3, .inl ⟨hd,fun h=>absurd h (by omega),fun h=>absurd h (by omega)⟩⟩)
theorem LkR.leave{bs:List UInt8}{B p k:Nat}{V:World}{f:Fd}{dl:List S3}(h:LkR bs B p k V f dl)(hk:k=if p=0 then 1 else if p=1 then 3 else 2):LkE bs B (p+1) V f dl:=by
 rcases h with⟨rfl,-,h2⟩|⟨rfl,hs,⟨h1,h2,h3,h4⟩|h⟩|⟨rfl,hs,hd,hi,hm,⟨h1,h2,h3⟩|h⟩
 ·rcases h2 (by rw[hk];decide) with⟨e1,e2⟩|⟨e1,e2⟩
  ·exact .inr ⟨e2,fun _=>e1,fun h=>absurd h (by omega),fun h=>absurd h (by omega)⟩
  ·exact .inl ⟨e2,checkP_none e1⟩
 ·have hk:k=3:=hk;exact .inr ⟨h1,fun _=>hs,fun _=>⟨h2 (by omega),h3 (by omega),h4 (by omega)⟩,fun h=>absurd h (by omega)⟩
 ·exact .inl h
 ·have hk:k=2:=hk;refine .inr ⟨h1,fun _=>hs,fun _=>⟨hd,hi,hm⟩,fun _=>?_⟩
  obtain⟨ls,e1,-⟩:=hd;obtain⟨l,e2,-⟩:=hi;obtain⟨q,e3,-⟩:=hm;obtain⟨c,e4,e5⟩:=h3 (by omega) q e3;refine⟨ls,?_,e1⟩;rw[Y6 hs,e1,Option.bind_some,e2,Option.bind_some,e3,Option.bind_some,e4,Option.bind_some,if_pos ⟨h2 (by omega) ls l e1 e2,e5⟩]
 ·exact .inl h
def LkQ(bs:List UInt8)(B g p k:Nat)(V W:World)(dl:List S3)(X:Value)(e:Ending)(W':World):Prop:=
 ∃dl2 f',StR W W' g e dl2/\W'.heap[g]?=some (.cells (Fd.cells f' X) 76)/\∀U,Q3 g B V U->Q3 g B W' U->LkR bs B p (k+1) U f' (dl++dl2)
section
variable {bs:List UInt8} {m base g b B:Nat} {f:Fd} {X:Value} {V W:World} {dl:List S3}
theorem lk1_any(hw:LkW bs m base g b f X W)(hR:LkR bs B 0 0 V f dl):Calls prog 135 #[.pointer (some ⟨g,0,none⟩), .pointer (some ⟨b,0,none⟩)] W (LkQ bs B g 0 0 V W dl X):=by
 have hd:dl=[]:=by rcases hR with⟨-,h,-⟩|⟨h,-⟩|⟨h,-⟩<;>first|exact h rfl|cases h
 subst hd;refine(st1_any hw.img hw.bs hw.err hw.row hw.m).mono ?_;rintro e W' ⟨z0,a',h1,h2,h3⟩;refine⟨z0,{f with a:=a'},h1,h2,fun U _ _=> .inl ⟨rfl,fun h=>absurd h (by omega),fun _=>?_⟩⟩
 rw[Np];rcases h3 with⟨s,e1,rfl,e2⟩|h
 ·exact .inl ⟨e1,e2⟩
 ·exact .inr h
theorem lk2_any(hw:LkW bs m base g b f X W)(hb0:b≠g)(hb1:b+1≠g)(hB:B<=W.heap.size)(hR:LkR bs B 1 0 V f dl):Calls prog 137 #[.pointer (some ⟨g,0,none⟩), .pointer (some ⟨b,0,none⟩), .pointer (some ⟨b+1,0,none⟩)] W (LkQ bs B g 1 0 V W dl X):=by
 obtain⟨hs,z0⟩:QZ bs=some f.a/\(dl=[]∨(dl≠[]/\Zc bs=none)):=by
  rcases hR with⟨h,-⟩|⟨-,h,h2⟩|⟨h,-⟩
  ·cases h
  ·exact⟨h,h2.imp (·.1) id⟩
  ·cases h
 refine(st2_any hw.img hw.bs hw.err 1000000 (by decide) hw.row hw.m hw.fuel hb0 hb1).mono ?_;rintro e W' ⟨z1,q0,q1,q2,q3,QA,Qn,Qc,h1,h2,h3⟩;refine⟨z1,{f with p0:=q0,p1:=q1,p2:=q2,p3:=q3,PA:=QA,Pn:=Qn,Pc:=Qc},h1,h2,fun U _ ht=> .inr (.inl ⟨rfl,hs,?_⟩)⟩
 rcases z0 with rfl|⟨e1,e2⟩
 ·rw[Np];rcases h3 with⟨ls,e1,e2,e3,e4,e5,e6,e7,ho⟩|⟨e1,e2⟩
  ·exact .inl ⟨e2,fun _=>DvK.added ⟨ls,e1,e3,e4,e5,e6,e7,ho.mono hB⟩ h2 ht,fun h=>absurd h (by omega),fun h=>absurd h (by omega)⟩
  ·refine .inr ⟨e2,?_⟩;rw[Y6 hs,e1];rfl
 ·exact .inr ⟨by simp[e1],e2⟩
theorem lk3_any(hw:LkW bs m base g b f X W)(hb0:b≠g)(hb1:b+1≠g)(hB:B<=W.heap.size)(hV:V.heap[g]?=some (.cells (f.cells X) 76))(hR:LkR bs B 1 1 V f dl):Calls prog 139 #[.pointer (some ⟨g,0,none⟩), .pointer (some ⟨b,0,none⟩), .pointer (some ⟨b+1,0,none⟩)] W (LkQ bs B g 1 1 V W dl X):=by
 obtain⟨hs,z0⟩:QZ bs=some f.a/\((dl=[]/\DvK bs B V f)∨(dl≠[]/\Zc bs=none)):=by
  rcases hR with⟨h,-⟩|⟨-,h,h2⟩|⟨h,-⟩
  ·cases h
  ·exact⟨h,h2.imp (fun h=>⟨h.1,h.2.1 (by omega)⟩) id⟩
  ·cases h
 refine(st3_any hw.img hw.bs hw.err (VZ hs).1 1000000 (by decide) hw.row hw.m hw.fuel hb0 hb1).mono ?_;rintro e W' ⟨z2,QA,Qn,Qc,h1,h2,h3⟩;refine⟨z2,{f with DA:=QA,Dn:=Qn,Dc:=Qc},h1,h2,fun U hVU ht=> .inr (.inl ⟨rfl,hs,?_⟩)⟩
 rcases z0 with⟨rfl,z1⟩|⟨e1,e2⟩
 ·rw[Np];rcases h3 with⟨l,e1,e2,e3,ho⟩|⟨e1,e2⟩
  ·exact .inl ⟨e2,fun _=>z1.added hV hVU,fun _=>IvK.added ⟨l,e1,e3,QO ho hB⟩ h2 ht,fun h=>absurd h (by omega)⟩
  ·refine .inr ⟨e2,?_⟩;rw[Y6 hs,e1];cases QY bs (f.a 5) (f.a 6) (f.a 3) 1000000<;>rfl
 ·exact .inr ⟨by simp[e1],e2⟩
theorem lk4_any(hw:LkW bs m base g b f X W)(hb0:b≠g)(hb1:b+1≠g)(hB:B<=W.heap.size)(hV:V.heap[g]?=some (.cells (f.cells X) 76))(hR:LkR bs B 1 2 V f dl):Calls prog 141 #[.pointer (some ⟨g,0,none⟩), .pointer (some ⟨b,0,none⟩), .pointer (some ⟨b+1,0,none⟩)] W (LkQ bs B g 1 2 V W dl X):=by
 obtain⟨hs,z0⟩:QZ bs=some f.a/\((dl=[]/\DvK bs B V f/\IvK (Xu bs (f.a 7) (f.a 8) (f.a 3) 1000000) B V f.DA f.Dn f.Dc)∨(dl≠[]/\Zc bs=none)):=by
  rcases hR with⟨h,-⟩|⟨-,h,h2⟩|⟨h,-⟩
  ·cases h
  ·exact⟨h,h2.imp (fun h=>⟨h.1,h.2.1 (by omega),h.2.2.1 (by omega)⟩) id⟩
  ·cases h
 refine(st4_any hw.img hw.bs hw.err (VZ hs).1 1000000 (by decide) hw.row hw.m hw.fuel hb0 hb1).mono ?_;rintro e W' ⟨z3,QA,Qn,Qc,h1,h2,h3⟩;refine⟨z3,{f with MA:=QA,Mn:=Qn,Mc:=Qc},h1,h2,fun U hVU ht=> .inr (.inl ⟨rfl,hs,?_⟩)⟩
 rcases z0 with⟨rfl,z2,z1⟩|⟨e1,e2⟩
 ·rw[Np];rcases h3 with⟨l,e1,e2,e3,ho⟩|⟨e1,e2⟩
  ·exact .inl ⟨e2,fun _=>z2.added hV hVU,fun _=>z1.added hV hVU,fun _=>IvK.added ⟨l,e1,e3,QO ho hB⟩ h2 ht⟩
  ·refine .inr ⟨e2,?_⟩;rw[Y6 hs,e1];cases QY bs (f.a 5) (f.a 6) (f.a 3) 1000000<;>cases Xu bs (f.a 7) (f.a 8) (f.a 3) 1000000<;>rfl
 ·exact .inr ⟨by simp[e1],e2⟩
theorem lk5_any(hw:LkW bs m base g b f X W)(hVW:Below V.heap.size V W)(hV:V.heap[g]?=some (.cells (f.cells X) 76))(hR:LkR bs B 2 0 V f dl):Calls prog 143 #[.pointer (some ⟨g,0,none⟩)] W (LkQ bs B g 2 0 V W dl X):=by
 obtain⟨hs,z4,z6,z8,z7⟩:QZ bs=some f.a/\DvK bs B V f/\IvK (Xu bs (f.a 7) (f.a 8) (f.a 3) 1000000) B V f.DA f.Dn f.Dc/\IvK (X3 bs (f.a 9) (f.a 10) (f.a 4) 1000000) B V f.MA f.Mn f.Mc/\(dl=[]∨(dl≠[]/\Zc bs=none)):=by
  rcases hR with⟨h,-⟩|⟨h,-⟩|⟨-,h1,h2,h3,h4,h5⟩
  ·cases h
  ·cases h
  ·exact⟨h1,h2,h3,h4,h5.imp (·.1) id⟩
 have z1:=z4;have z2:=z6;obtain⟨ls,d1,d2,d3,d4,d5,d6,d7⟩:=z4;obtain⟨l,i1,i2,i3⟩:=z6;have z5:=devs_bnd hs d1;have hll:=EQ i1;have hoS:=VA (VZ hs).1;have z0:=hw.row;unfold Fd.cells at z0;rw[d2,i2] at z0;refine(st5_any z0 ((d7.keep hVW).devs) (Qh.of_own (Qk i3 hVW)) (by omega) ?_ (fun d hd=>by have:=z5.2.2.2 d hd;omega) (by omega)).mono ?_
 ·have:=z5.2.2.1;unfold ZL at this ⊢;dsimp only at this ⊢;omega
 rintro e W' ⟨z3,h1,h2,h3,h4⟩;refine⟨z3,f,h1,?_,fun U hVU ht=> .inr (.inr ⟨rfl,hs,z1.added hV hVU,z2.added hV hVU,z8.added hV hVU,?_⟩)⟩
 ·unfold Fd.cells;rw[d2,i2];exact h2
 rw[d3,d4,d5,d6] at h3;rcases z7 with rfl|⟨e1,e2⟩
 ·rw[Np];by_cases hz:z3=[]
  ·subst hz;refine .inl ⟨rfl,fun _ ls' l' e1 e2=>?_,fun h=>absurd h (by omega)⟩
   rw[d1] at e1;rw[i1] at e2;cases e1;cases e2;exact h3.symm
  ·refine .inr ⟨hz,?_⟩;rw[Y6 hs,d1,Option.bind_some,i1,Option.bind_some];cases X3 bs (f.a 9) (f.a 10) (f.a 4) 1000000 with
   |none=>rfl
   |some q=>
    rw[Option.bind_some];cases XJ bs f.a with
    |none=>rfl
    |some c=>
     rw[Option.bind_some,if_neg];intro hh;rw[hh.1] at h3;exact hz (Lp.1 h3)
 ·exact .inr ⟨by simp[e1],e2⟩
theorem lk6_any(hw:LkW bs m base g b f X W)(hVW:Below V.heap.size V W)(hV:V.heap[g]?=some (.cells (f.cells X) 76))(hR:LkR bs B 2 1 V f dl):Calls prog 145 #[.pointer (some ⟨g,0,none⟩), .pointer (some ⟨b,0,none⟩)] W (LkQ bs B g 2 1 V W dl X):=by
 obtain⟨hs,z5,z7,z3,z4⟩:QZ bs=some f.a/\DvK bs B V f/\IvK (Xu bs (f.a 7) (f.a 8) (f.a 3) 1000000) B V f.DA f.Dn f.Dc/\IvK (X3 bs (f.a 9) (f.a 10) (f.a 4) 1000000) B V f.MA f.Mn f.Mc/\((dl=[]/\∀ls l,QY bs (f.a 5) (f.a 6) (f.a 3) 1000000=some ls->Xu bs (f.a 7) (f.a 8) (f.a 3) 1000000=some l->(Zl l (Yk ⟨f.a 0,f.a 1,f.a 2,f.a 3,ls⟩)).length=0)∨(dl≠[]/\Zc bs=none)):=by
  rcases hR with⟨h,-⟩|⟨h,-⟩|⟨-,h1,h2,h3,h4,h5⟩
  ·cases h
  ·cases h
  ·exact⟨h1,h2,h3,h4,h5.imp (fun h=>⟨h.1,h.2.1 (by omega)⟩) id⟩
 have z1:=z3;obtain⟨l,i1,i2,i3⟩:=z3;have hll:=Ew i1;have hoS:=VA (VZ hs).1;have z0:=hw.row;unfold Fd.cells at z0;rw[i2] at z0;refine(st6_any hw.img hw.bs hw.err z0 (Qh.of_own (Qk i3 hVW)) (by omega) hw.m).mono ?_;rintro e W' ⟨z2,h1,h2,h3⟩;refine⟨z2,f,h1,Qe hw.row h2,fun U hVU ht=> .inr (.inr ⟨rfl,hs,z5.added hV hVU,z7.added hV hVU,z1.added hV hVU,?_⟩)⟩
 rcases z4 with⟨rfl,z6⟩|⟨e1,e2⟩
 ·rw[Np];by_cases hz:z2=[]
  ·refine .inl ⟨hz,fun _=>z6,fun _ q hq=>?_⟩
   rw[i1] at hq;cases hq;exact h3.1 hz
  ·refine .inr ⟨hz,?_⟩;rw[Y6 hs];cases QY bs (f.a 5) (f.a 6) (f.a 3) 1000000 with
   |none=>rfl
   |some ls=>
    rw[Option.bind_some];cases Xu bs (f.a 7) (f.a 8) (f.a 3) 1000000 with
    |none=>rfl
    |some dl'=>
     rw[Option.bind_some,i1,Option.bind_some];cases hr:XJ bs f.a with
     |none=>rfl
     |some c=>
      rw[Option.bind_some,if_neg];intro hh;exact hz (h3.2 ⟨c,hr,hh.2⟩)
 ·exact .inr ⟨by simp[e1],e2⟩
end
structure GC(b:Nat)(m:Nat)(V:World):Prop where
 m:V.heap[b]?=some (.cells #[Ra m] 24)
 fuel:V.heap[b+1]?=some (.cells #[.int .i64 1000000] 3)
 ra:V.heap[b+2]?=some (.cells (rowA b) 175)
 rb:V.heap[b+3]?=some (.cells (rowB b) 175)
 rc:V.heap[b+4]?=some (.cells (rowC b) 175)
 rp:V.heap[b+5]?=some (.cells (rowP b) 172)
theorem GC.added{b m g B:Nat}{V W:World}(h:GC b m V)(hg:g<b)(ht:Q3 g B V W):GC b m W:=
 ⟨ht.row h.m (by omega) (by decide),ht.row h.fuel (by omega) (by decide),ht.row h.ra (by omega) (by decide),ht.row h.rb (by omega) (by decide),ht.row h.rc (by omega) (by decide),ht.row h.rp (by omega) (by decide)⟩
theorem Jq{w:World}{b:Nat}(h:b=w.heap.size)(o:Obj):(w.alloc o).heap[b]?=some o:=by subst h;exact heap_alloc_new w o
theorem stW_rows(w:World)(m:Nat):(stW w m 1000000).heap.size=w.heap.size+6/\GC w.heap.size m (stW w m 1000000)/\Below w.heap.size w (stW w m 1000000):=by
 unfold stW;obtain⟨w1,h1⟩:=DR (w.alloc (.cells #[Ra m] 24));obtain⟨w2,h2⟩:=DR (w1.alloc (.cells #[.int .i64 1000000] 3));obtain⟨w3,h3⟩:=DR (w2.alloc (.cells (rowA w.heap.size) 175));obtain⟨w4,h4⟩:=DR (w3.alloc (.cells (rowB w.heap.size) 175));obtain⟨w5,h5⟩:=DR (w4.alloc (.cells (rowC w.heap.size) 175));obtain⟨w6,h6⟩:=DR (w5.alloc (.cells (rowP w.heap.size) 172));rw[<-h1,<-h2,<-h3,<-h4,<-h5,<-h6];have s1:w1.heap.size=w.heap.size+1:=by rw[h1,Nr]
 have s2:w2.heap.size=w.heap.size+2:=by rw[h2,Nr,s1]
 have s3:w3.heap.size=w.heap.size+3:=by rw[h3,Nr,s2]
 have s4:w4.heap.size=w.heap.size+4:=by rw[h4,Nr,s3]
 have s5:w5.heap.size=w.heap.size+5:=by rw[h5,Nr,s4]
 have s6:w6.heap.size=w.heap.size+6:=by rw[h6,Nr,s5]
 have b1:Below w.heap.size w w1:=by rw[h1];exact Qd w _
 have b2:Below w1.heap.size w1 w2:=by rw[h2];exact Qd w1 _
 have b3:Below w2.heap.size w2 w3:=by rw[h3];exact Qd w2 _
 have b4:Below w3.heap.size w3 w4:=by rw[h4];exact Qd w3 _
 have b5:Below w4.heap.size w4 w5:=by rw[h5];exact Qd w4 _
 have b6:Below w5.heap.size w5 w6:=by rw[h6];exact Qd w5 _
 have r1:w1.heap[w.heap.size]?=some (.cells #[Ra m] 24):=by rw[h1];exact Jq rfl _
 have r2:w2.heap[w.heap.size+1]?=some (.cells #[.int .i64 1000000] 3):=by rw[h2];exact Jq s1.symm _
 have r3:w3.heap[w.heap.size+2]?=some (.cells (rowA w.heap.size) 175):=by rw[h3];exact Jq s2.symm _
 have r4:w4.heap[w.heap.size+3]?=some (.cells (rowB w.heap.size) 175):=by rw[h4];exact Jq s3.symm _
 have r5:w5.heap[w.heap.size+4]?=some (.cells (rowC w.heap.size) 175):=by rw[h5];exact Jq s4.symm _
 have r6:w6.heap[w.heap.size+5]?=some (.cells (rowP w.heap.size) 172):=by rw[h6];exact Jq s5.symm _
 have k5:=b6;have k4:=Qb b5 k5;have k3:=Qb b4 k4;have k2:=Qb b3 k3;have k1:=Qb b2 k2;exact⟨s6,⟨Qe r1 k1,Qe r2 k2,Qe r3 k3,Qe r4 k4,Qe r5 k5,r6⟩,Qb b1 k1⟩
structure LkV(bs:List UInt8)(m base g b B:Nat)(w1 V:World)(f:Fd)(dl:List S3)(A:Option Addr)(c N:Nat):Prop where
 s:LkS B g w1 V f dl A c N
 w:LkW bs m base g b f (.slice A dl.length c) V
 r:GC b m V
 gb:g<b
 Bb:B=b+6
 bg:base<=g
 g0:0<g
 sz:B<=V.heap.size
theorem LkV.w_ext{bs:List UInt8}{m base g b B:Nat}{w1 V W:World}{f:Fd}{dl:List S3}{A:Option Addr}{c N:Nat}(h:LkV bs m base g b B w1 V f dl A c N)(hb:Below V.heap.size V W):LkW bs m base g b f (.slice A dl.length c) W:=h.w.ext hb
theorem LkV.step{bs:List UInt8}{m base g b B:Nat}{w1 V W W' W7:World}{f f':Fd}{dl dl2:List S3}{A A7:Option Addr}{c c7 N p k:Nat}{e:Ending}(h:LkV bs m base g b B w1 V f dl A c N)(hVW:Below V.heap.size V W)(hst:StR W W' g e dl2)(hr:W'.heap[g]?=some (.cells (f'.cells (.slice A dl.length c)) 76))
  (hR:∀U,Q3 g B V U->Q3 g B W' U->LkR bs B p (k+1) U f' (dl++dl2))
  (hg7:W'.grownBy W7 (Value.slice A dl.length c).ownBlock) (ho7:W7.ownsRow B 79 3 (.slice A7 (dl.length+dl2.length) c7) (dl.length+dl2.length) (tv dl++tv dl2)):
  LkV bs m base g b B w1 (W7.setCell ⟨g,18,none⟩ (.slice A7 (dl.length+dl2.length) c7)) f' (dl++dl2) A7 c7 (N+1000000000000)/\LkR bs B p (k+1) (W7.setCell ⟨g,18,none⟩ (.slice A7 (dl.length+dl2.length) c7)) f' (dl++dl2):=by
 obtain⟨h1,h2,h3⟩:=h.s.step hVW hst hr hg7 ho7;have hs:=h.sz;have z1:=h.gb;have z3:=h.Bb;have z2:=h.bg;have hb:Below g V (W7.setCell ⟨g,18,none⟩ (.slice A7 (dl.length+dl2.length) c7)):=h2.below (Na _) (by omega) (by omega);have z0:=h.r.added z1 h2;refine⟨⟨h1,⟨h.w.img.below (hb.mono z2),D3 h.w.bs hb.size,?_,h1.row,Qa z0.m 0 rfl,Qa z0.fuel 0 rfl⟩,z0,z1,z3,z2,h.g0,D3 hs hb.size⟩,hR _ h2 h3⟩;exact(hb.cell (p:=⟨0,0,none⟩) h.g0).trans h.w.err
theorem LkV.weak{bs:List UInt8}{m base g b B:Nat}{w1 V:World}{f:Fd}{dl:List S3}{A:Option Addr}{c N N':Nat}(h:LkV bs m base g b B w1 V f dl A c N)(hn:dl.length<=N'):LkV bs m base g b B w1 V f dl A c N':=
 ⟨⟨h.s.row,h.s.own,h.s.add,hn⟩,h.w,h.r,h.gb,h.Bb,h.bg,h.g0,h.sz⟩
theorem lkV_start{w w0:World}{m base:Nat}{bs:List UInt8}(hi:ZH w base m bs)(hbs:base<=w.heap.size)(hT:XC w)(hb:Below w.heap.size w w0)(hs:w0.heap.size=w.heap.size+2)(hg:w0.heap[w.heap.size+1]?=some (.cells (fd0.cells (.slice none 0 0)) 76)):
  LkV bs m base (w.heap.size+1) w0.heap.size (w0.heap.size+6) (stW w0 m 1000000) (stW w0 m 1000000) fd0 [] none 0 0:=by
 obtain⟨s6,hr,h6⟩:=stW_rows w0 m;have z0:=Qe hg h6;have z1:=Qb hb h6;refine⟨⟨z0,Nb _ _ _ _,Q3.refl _ _ _,Na _⟩,⟨hi.below (z1.mono hbs),D3 hbs z1.size,hT.below z1,z0,Qa hr.m 0 rfl,Qa hr.fuel 0 rfl⟩,hr,by omega,rfl,by omega,by omega,by omega⟩
theorem tv_oneC:∀(l:List S3),∀u∈tv l,u.oneCell'=true
 |[],u,h=>by cases h
 |x::r,u,h=>by
  simp only[tv,Nt] at h;rcases h with rfl|rfl|rfl|h
  ·rfl
  ·rfl
  ·rfl
  ·exact tv_oneC r u h
theorem Vr:∀(l:List S3),(tv l).length=l.length*3
 |[]=>rfl
 |x::r=>by simp only[tv,No,Vr r];omega
def LkArm(bs:List UInt8)(m base g b B p k:Nat)(w1:World)(n:Nat)(xs:List Value)(A:Option Addr)(c N:Nat)(W:World)(e:Ending)(W':World):Prop:=
 ∃A2 n2 c2 news,e= .returned (.slice A2 n2 c2)/\Qh W' W'.heap.size A2 news/\news.length=n2*3/\(∀u∈news,u.oneCell'=true)/\n2<=1000000000000/\W'.ownsRow B 79 3 (.slice A n c) n xs/\B<=W'.heap.size/\W'.cell? ⟨g,18,none⟩=some (.slice A n c)/\
  (∀(q:Nat) (cs:Array Value),W.heap[q]?=some (.cells cs 175)->W'.heap[q]?=some (.cells cs 175))/\
  ∀W7 A7 c7,W'.grownBy W7 (Value.slice A n c).ownBlock->W7.ownsRow B 79 3 (.slice A7 (n+n2) c7) (n+n2) (xs++news)->
   W7.frozen? ⟨g,18,none⟩=false/\W7.cell? ⟨g,18,none⟩=some (.slice A n c)/\(∀(q:Nat) (cs:Array Value),W'.heap[q]?=some (.cells cs 175)->W7.heap[q]?=some (.cells cs 175)/\(W7.setCell ⟨g,18,none⟩ (.slice A7 (n+n2) c7)).heap[q]?=some (.cells cs 175))/\
   ∃f' dl',LkV bs m base g b B w1 (W7.setCell ⟨g,18,none⟩ (.slice A7 (n+n2) c7)) f' dl' A7 c7 (N+1000000000000)/\LkR bs B p (k+1) (W7.setCell ⟨g,18,none⟩ (.slice A7 (n+n2) c7)) f' dl'
theorem LkV.arm{bs:List UInt8}{m base g b B p k:Nat}{w1 V W W':World}{f:Fd}{dl:List S3}{A:Option Addr}{c N:Nat}{e:Ending}(h:LkV bs m base g b B w1 V f dl A c N)(hVW:Below V.heap.size V W)(hq:LkQ bs B g p k V W dl (.slice A dl.length c) e W'):
  LkArm bs m base g b B p k w1 dl.length (tv dl) A c N W e W':=by
 obtain⟨z0,f',z5,hr,hR⟩:=hq;have hm:=h.s.mid hVW z5;obtain⟨A2,c2,he,z4,z6,z3⟩:=z5;have z7:=Qe h.s.row hVW;refine⟨A2,z0.length,c2,tv z0,he,Qh.of_own_s z6,Vr z0,tv_oneC z0,z4,hm,D3 h.sz (D3 hVW.size z3.size),Qa hr 18 rfl,fun q cs hq=>?_,fun W7 A7 c7 hg7 ho7=>?_⟩
 ·exact(z3.block q (Array.getElem?_eq_some_iff.1 hq).1 (fun e=>by have e:=Nd e;subst e;rw[z7] at hq;cases hq)).trans hq
 have z2:W7.heap[g]?=some (.cells (f'.cells (.slice A dl.length c)) 76):=(hg7.block g (D0.1 hr).1 (Qi hr (by decide) hm)).trans hr;refine⟨Qf z2 18,Qa z2 18 rfl,fun q cs hq=>?_,f',dl++z0,h.step hVW ⟨A2,c2,he,z4,z6,z3⟩ hr hR hg7 ho7⟩
 have z1:W7.heap[q]?=some (.cells cs 175):=(hg7.block q (D0.1 hq).1 (Qi hq (by decide) hm)).trans hq;refine⟨z1,((Qo W7 g 18 _).block q (D0.1 z1).1 (fun e=>?_)).trans z1⟩;have e:=Nd e;subst e;rw[z2] at z1;cases z1
end Go.Proofs.YtijcgllddnpmhaaGreatDoor
