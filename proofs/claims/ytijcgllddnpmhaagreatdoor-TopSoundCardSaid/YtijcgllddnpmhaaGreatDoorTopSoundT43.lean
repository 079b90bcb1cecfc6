/- TopSound: lemmas, part 43. -/
import Derived.Test.YtijcgllddnpmhaaGreatDoorTopSoundT42
import Derived.Laws.Rows
set_option maxRecDepth 100000
set_option maxHeartbeats 16000000
set_option linter.all false
namespace Go.Proofs.YtijcgllddnpmhaaGreatDoor
open Go.RowKit Go.Proofs.Tryz
def LkD(bs:List UInt8)(base:Nat)(w':World)(f:Fd)(dl:List S3):Prop:=
 (dl≠[]/\Zc bs=none)∨(dl=[]/\∃ls,Zc bs=some (⟨f.a 0,f.a 1,f.a 2,f.a 3,ls⟩,f.a)/\f.Pn=ls.length/\f.p0=f.a 0/\f.p1=f.a 1/\f.p2=f.a 2/\f.p3=f.a 3/\Qt w' base (.slice f.PA ls.length f.Pc) ls)
def LkG(bs:List UInt8)(w:World)(e:Ending)(w':World):Prop:=
 ∃(f:Fd) (dl:List S3) (A:Option Addr) (c:Nat),e= .returned (.agg (f.cells (.slice A dl.length c)))/\Below w.heap.size w w'/\w'.ownsRow w.heap.size 79 3 (.slice A dl.length c) dl.length (tv dl)/\LkD bs w.heap.size w' f dl
theorem fd_one(f:Fd)(A:Option Addr)(n c:Nat):∀v∈(f.cells (.slice A n c)).toList,v.oneCell'=true:=by
 intro v hv;simp[Fd.cells,fdC] at hv;rcases hv with rfl|rfl|rfl|rfl|rfl|rfl|rfl|rfl|rfl|rfl|rfl|rfl|rfl|rfl|rfl|rfl|rfl|rfl|rfl<;>rfl
theorem Dv(f:Fd)(X:Value):(prog.info? 76).map (·.size)=some (f.cells X).size:=by
 rw[show(f.cells X).size=19 from rfl]
 kernel_rfl
theorem LkV.fin{bs:List UInt8}{m base g b B r0:Nat}{w w1 V W:World}{f:Fd}{dl:List S3}{A:Option Addr}{c N p:Nat}(h:LkV bs m base g b B w1 V f dl A c N)(hE:LkE bs B p V f dl)(hp:dl≠[]∨p=3)(hb1:Below w.heap.size w w1)(hr0:r0=w.heap.size)(hg:g=w.heap.size+1)
  {cs:Array Value} (hr:V.heap[r0]?=some (.cells cs 76)) (hg4:V.grownBy W (some r0)):Below w.heap.size w W/\W.ownsRow w.heap.size 79 3 (.slice A dl.length c) dl.length (tv dl)/\LkD bs w.heap.size W f dl:=by
 have hB:w.heap.size<=B:=by have:=h.gb;have:=h.Bb;omega
 have z0:Below w.heap.size w V:=hb1.trans (h.s.add.below (by omega) hB hb1.size);refine⟨z0.grown hg4 z0.size (fun k hk=>by cases hk;omega),QO (h.s.own.kept hg4 (.inr (Qi hr (by decide) h.s.own).symm)) hB,?_⟩;rcases hE with h1|⟨h1,h2,h3,h4⟩
 ·exact .inl h1
 ·have z1:p=3:=hp.resolve_left (fun h=>h h1);subst z1;obtain⟨ls,c1,c2⟩:=h4 (by omega);obtain⟨ls',d1,d2,d3,d4,d5,d6,d7⟩:=(h3 (by omega)).1;rw[c2] at d1;cases d1;exact .inr ⟨h1,ls,c1,d2,d3,d4,d5,d6,(d7.kept hg4 (fun e he u s n xs ho=> .inr (Qi hr (by rcases he with rfl|rfl<;>decide) ho).symm)).mono hB⟩
theorem LkV.r0row{bs:List UInt8}{m base g b B r0:Nat}{w1 V:World}{f:Fd}{dl:List S3}{A:Option Addr}{c N:Nat}(h:LkV bs m base g b B w1 V f dl A c N){cs:Array Value}(hr:w1.heap[r0]?=some (.cells cs 76))(hne:r0≠g):V.heap[r0]?=some (.cells cs 76):=h.s.add.row hr hne (by decide)
theorem Gx{w:World}{base m:Nat}{bs:List UInt8}(hi:ZH w base m bs)(hbs:base<=w.heap.size)(hT:XC w):
  Calls prog 32 #[.pointer (some ⟨m,0,none⟩), .int .i64 1000000] w (LkG bs w):=by
 obtain⟨js,zq,zr,zs,zo⟩:=info_parts Tryz.infoDmg;obtain⟨w0,zp⟩:=DR ((w.alloc (.cells (fd0.cells (.slice none 0 0)) 76)).alloc (.cells (fd0.cells (.slice none 0 0)) 76));have zI:w0.heap.size=w.heap.size+2:=by rw[zp,Nr,Nr]
 have zB:Below w.heap.size w w0:=by rw[zp];exact QG w _ _
 have zH:w0.heap[w.heap.size+1]?=some (.cells (fd0.cells (.slice none 0 0)) 76):=by rw[zp];exact Jq (Nr _ _).symm _
 have zG:w0.heap[w.heap.size]?=some (.cells (fd0.cells (.slice none 0 0)) 76):=by rw[zp];exact Qj (heap_alloc_new w _) _
 have KS:Calls prog 79 #[.pointer (some ⟨m,0,none⟩), .int .i64 1000000] w0 fun e w'=>∃b B,e= .returned (.slice (some ⟨b+5,0,none⟩) 3 3)/\Hid (LkV bs m base (w.heap.size+1) b B w' w' fd0 [] none 0 0/\w'.heap[w.heap.size]?=some (.cells (fd0.cells (.slice none 0 0)) 76)/\Below w.heap.size w w'):=by
  refine(stages_any w0 m 1000000).mono ?_;rintro e w' ⟨rfl,rfl⟩;obtain⟨s6,hr,h6⟩:=stW_rows w0 m;exact⟨_,_,rfl,DY ⟨lkV_start hi hbs hT zB zI zH,Qe zG h6,Qb zB h6⟩⟩
 obtain⟨g,zx⟩:=DR (w.heap.size+1);rw[<-zx] at KS;have zy:=DY zx;clear hi hbs hT zI zB zH zG;go_enter func32,ntmps32
 go_upto_region 2 with fail
 rw[show(w.alloc (.cells #[.int .i64 0, .int .i64 0, .int .i64 0, .int .i64 0, .int .i64 0, .int .i64 0, .int .i64 0, .int .i64 0, .int .i64 0, .int .i64 0, .int .i64 0, .int .i64 0, .int .i64 0, .int .i64 0, .int .i64 0, .slice none 0 0, .slice none 0 0, .slice none 0 0, .slice none 0 0] 76)).alloc (.cells #[.int .i64 0, .int .i64 0, .int .i64 0, .int .i64 0, .int .i64 0, .int .i64 0, .int .i64 0, .int .i64 0, .int .i64 0, .int .i64 0, .int .i64 0, .int .i64 0, .int .i64 0, .int .i64 0, .int .i64 0, .slice none 0 0, .slice none 0 0, .slice none 0 0, .slice none 0 0] 76)=w0 from zp.symm]
 rw[<-zx];clear zp zx;go_wp2_with fail
 refine KS.mono ?_;rintro e w1 ⟨b,B,rfl,HL⟩;have zF:=DY HL.out.2.1;have zE:=DY HL.out.2.2;clear KS;go_wp2_with fail
 go_loopw [14] (fun i wr=>∃(p:Nat) (pq:Int) (f:Fd) (dl:List S3) (A:Option Addr) (c:Nat),p<=3/\pq=(p:Int)/\i= .int .i64 pq/\Hid (LkV bs m base g b B w1 wr f dl A c 3000000000000/\LkE bs B p wr f dl)) (fun i _=>3-(intOf i).toNat)
 case atStart=>exact⟨0,0,fd0,[],none,0,by omega,rfl,rfl,DY ⟨HL.out.1.weak (by decide), .inr ⟨rfl,fun h=>absurd h (by omega),fun h=>absurd h (by omega),fun h=>absurd h (by omega)⟩⟩⟩
 case round=>
  clear HL;obtain⟨p,pq,f,dl,A,c,hp,zw,rfl,HH⟩:=hrel;have hgw:w.heap.size≠g:=by have:=zy.out;omega
  by_cases hp3:p=3
  ·subst hp3;have HV:=HH;clear hp;have zt:=HV.out.1.r0row zF (by omega);have zn:=Dv f (.slice A dl.length c);have z2:=fd_one f A dl.length c;have zm:=HV.out.1.s.row;have zA:Hid (((fd0.cells (.slice none 0 0)).size)=(f.cells (.slice A dl.length c)).size):=rfl;clear HH;generalize hC:f.cells (.slice A dl.length c)=C at*;have zz:=DY hC;clear hC;have zC:=DY zt;go_wp2_with (first|(refine wpList_load_row rfl 76 _ rfl g rfl 76 _ _ _ zm underlying76 rfl zn ?_)|(refine Ql rfl 76 _ _ rfl w.heap.size C rfl rfl (fd0.cells (.slice none 0 0)) 76 zt zA.out zn z2 ?_;intro w4 h4 zD zJ))
   refine bodyPost_ret (v:= .agg C) (results_cell_row (p:=4) rfl _ _ w.heap.size 76 C _ _ rfl h4 underlying76 rfl zn) rfl ?_;obtain⟨x1,x2,x3⟩:=HV.out.1.fin HV.out.2 (.inr rfl) zE rfl zy zC zD;exact⟨f,dl,A,c,by rw[zz.out],x1,x2,x3⟩
  ·obtain⟨hv,he⟩:=HH.out;have zv:wr.cell? ⟨g,18,none⟩=some (.slice A dl.length c):=Qa hv.s.row 18 rfl;by_cases hd:dl=[]
   ·have hR:=he.enter hd (by omega);have d18':wr.cell? ⟨g,18,none⟩=some (.slice A 0 c):=by rw[zv,hd];rfl
    rcases(show p=0∨p=1∨p=2 by omega) with rfl|rfl|rfl
    ·obtain rfl:pq=0:=by omega
     clear zw;have qp:wr.cell? ⟨b+5,0,none⟩=some (.slice (some ⟨b+2,0,none⟩) 1 1):=Qa hv.r.rp 0 rfl;have HV:=DY (DZ hv (DZ hR hd));clear hv he hR hd HH zv;go_wp2_with fail
     rename World=>wl
     go_loopw [24] (fun j wr=>∃(k:Nat) (f:Fd) (dl:List S3) (A:Option Addr) (c:Nat),k<=1/\j= .int .i64 k/\Hid (LkV bs m base g b B w1 wr f dl A c (k*1000000000000)/\LkR bs B 0 k wr f dl)) (fun j _=>1-(intOf j).toNat)
     case atStart=>exact⟨0,f,dl,A,c,by omega,rfl,DY ⟨HV.out.1.weak (by rw[HV.out.2.2];exact Lb _),HV.out.2.1⟩⟩
     case round=>
      clear HV qp d18';obtain⟨k,f,dl,A,c,hk,rfl,HH⟩:=hrel;rcases(show k=0∨k=1 by omega) with rfl|rfl
      ·obtain⟨hv,hR⟩:=HH.out;have e0:wr.cell? ⟨b+2,0,none⟩=some (.bool false):=Qa hv.r.ra 0 rfl;have e1:wr.cell? ⟨b+2,1,none⟩=some (.func (.func 135) #[] #[.pointer (some ⟨b,0,none⟩)]):=Qa hv.r.ra 1 rfl;obtain⟨w8,z6⟩:∃w8,w8=wr.alloc (.cells #[.bool false, .func (.func 135) #[] #[.pointer (some ⟨b,0,none⟩)]] 175):=⟨_,rfl⟩;have z5:Below wr.heap.size wr w8.drew:=by rw[z6];exact(Qd wr _).drew
       have h9:w8.drew.heap[wr.heap.size]?=some (.cells #[.bool false, .func (.func 135) #[] #[.pointer (some ⟨b,0,none⟩)]] 175):=by rw[z6];exact heap_alloc_new wr _
       have c9:w8.drew.cell? ⟨wr.heap.size,1,none⟩=some (.func (.func 135) #[] #[.pointer (some ⟨b,0,none⟩)]):=Qa h9 1 rfl;have zu:w8.drew.cell? ⟨g,18,none⟩=some (.slice A dl.length c):=Qa (Qe hv.s.row z5) 18 rfl;have KC:=(lk1_any (hv.w_ext z5) hR).mono fun e W' hq=>hv.arm z5 hq
       have H9:=DY h9;have HN:=hv.s.n;have HX:=Vr dl;clear hv hR HH z5 h9;generalize dl.length=n at*;generalize tv dl=xs at*;have zg:=DY (DZ HN HX);clear HN HX;go_upto_region 9 with fail
       rw[show wr.alloc (.cells #[.bool false, .func (.func 135) #[] #[.pointer (some ⟨b,0,none⟩)]] 175)=w8 from z6.symm]
       clear z6;refine wp_region_held_drew (S:=(fun V=>V.cell? ⟨wr.heap.size,1,none⟩=some (.func (.func 135) #[] #[.pointer (some ⟨b,0,none⟩)]))) (by kernel_rfl) ?_ (fun hHeld=>?_)
       (focus((try dsimp only);(first|with_reducible exact c9|with_reducible exact zj.out|with_reducible exact zc.out|with_reducible exact zd.out)))
       refine QD (.f 0 (.f 2 (.f 3 (.t 1 (.o 4 (.r 5 (.f 6 (.o 7 .e)))) 4 (.o 1 (.r 5 (.f 6 (.o 7 .e)))))))) ?_
       repeat' ((first|(refine QL (v:=?_) (hv:=?_) (h:=?_);rotate_left;(focus(first|(refine .inr ⟨by rfl,?_⟩;rfl)|(refine .inl ⟨by rfl,?_⟩;intro w hSw;(try dsimp only at hSw);(try simp only[D8,D4,List.getElem_cons_zero]);go_simp;try(with_reducible rfl)))))|(refine Qr (h:=?_))|((first|((first|refine Qx (h:=fun K hK=>?_)|refine Zt (h:=fun K hK=>?_) (h':=fun K hK=>?_))<;>((try simp only[D8,D4,D5]);go_simp))|(refine Q0 (h:=fun K hK=>?_)))<;>((first|(go_at_call 135;refine KC.mono ?_;rintro e w3 ⟨A2,n2,c2,z9,rfl,zi,zb,z2,zh,z3,zf,c3,z8,z4⟩;have zj:Hid (w3.cell? ⟨wr.heap.size,1,none⟩=some (.func (.func 135) #[] #[.pointer (some ⟨b,0,none⟩)])):=DY (Qa (z8 _ _ H9.out) 1 rfl);have z0:=DY (DZ zi (DZ zb (DZ z2 (DZ zh (DZ z3 (And.intro zf (DZ (z8 _ _ H9.out) z4)))))));clear zi zb z2 zh z3 zf z8 z4)|(refine Zg (.tmp 29) (.tmp 32) _ rfl B 3 79 js _ 24 underlying74 zq zr zs zo rfl (by decide) _ n xs rfl z0.out.2.2.2.2.1 _ _ n2 c2 z9 rfl z0.out.2.1 z0.out.1 z0.out.2.2.1 (by have h1:=zg.out.1;have h2:=z0.out.2.2.2.1;simp only[maxLen];omega) (by have h1:=zg.out.1;have h2:=z0.out.2.2.2.1;omega) z0.out.2.2.2.2.2.1 ?_;intro A7 c7 w7 z1 zk;obtain⟨z7,k7,za,ze⟩:=z0.out.2.2.2.2.2.2.2 w7 A7 c7 zk z1;have zc:Hid (w7.cell? ⟨wr.heap.size,1,none⟩=some (.func (.func 135) #[] #[.pointer (some ⟨b,0,none⟩)])):=DY (Qa (za _ _ z0.out.2.2.2.2.2.2.1).1 1 rfl);have zd:Hid ((w7.setCell ⟨g,18,none⟩ (.slice A7 (n+n2) c7)).cell? ⟨wr.heap.size,1,none⟩=some (.func (.func 135) #[] #[.pointer (some ⟨b,0,none⟩)])):=DY (Qa (za _ _ z0.out.2.2.2.2.2.2.1).2 1 rfl);have zl:=DY ze;clear z1 zk za ze)|skip);refine hK.out _ _ ?_ (fun hHeld=>?_);(focus((try dsimp only);(first|with_reducible exact c9|with_reducible exact zj.out|with_reducible exact zc.out|with_reducible exact zd.out)));clear hK K)))<;>(try simp only[Act.put,Nc,Nf,Ng]))
       all_goals (refine Qu ?_;refine wpAnyH_done (by kernel_rfl) ?_ _)
       all_goals
        go_wp2;go_roundw
        case rel=>
         obtain⟨f',dl',h1,h2⟩:=zl.out;exact⟨1,f',dl',A7,c7,by omega,rfl,DY ⟨h1.weak (by have:=h1.s.n;omega),h2⟩⟩
        case measure=>simp[intOf]
      ·go_wp2_with fail
       go_roundw
       case rel=>exact⟨1,1,f,dl,A,c,by omega,rfl,rfl,DY ⟨HH.out.1.weak (by have:=HH.out.1.s.n;omega),HH.out.2.leave rfl⟩⟩
       case measure=>simp[intOf]
    ·obtain rfl:pq=1:=by omega
     clear zw;have qp:wr.cell? ⟨b+5,1,none⟩=some (.slice (some ⟨b+3,0,none⟩) 3 3):=Qa hv.r.rp 1 rfl;have HV:=DY (DZ hv (DZ hR hd));clear hv he hR hd HH zv;go_wp2_with fail
     rename World=>wl
     go_loopw [24] (fun j wr=>∃(k:Nat) (f:Fd) (dl:List S3) (A:Option Addr) (c:Nat),k<=3/\j= .int .i64 k/\Hid (LkV bs m base g b B w1 wr f dl A c (k*1000000000000)/\LkR bs B 1 k wr f dl)) (fun j _=>3-(intOf j).toNat)
     case atStart=>exact⟨0,f,dl,A,c,by omega,rfl,DY ⟨HV.out.1.weak (by rw[HV.out.2.2];exact Lb _),HV.out.2.1⟩⟩
     case round=>
      clear HV qp d18';obtain⟨k,f,dl,A,c,hk,rfl,HH⟩:=hrel;rcases(show k=0∨k=1∨k=2∨k=3 by omega) with rfl|rfl|rfl|rfl
      ·obtain⟨hv,hR⟩:=HH.out;have e0:wr.cell? ⟨b+3,0,none⟩=some (.bool false):=Qa hv.r.rb 0 rfl;have e1:wr.cell? ⟨b+3,1,none⟩=some (.func (.func 137) #[] #[.pointer (some ⟨b,0,none⟩), .pointer (some ⟨b+1,0,none⟩)]):=Qa hv.r.rb 1 rfl;obtain⟨w8,z6⟩:∃w8,w8=wr.alloc (.cells #[.bool false, .func (.func 137) #[] #[.pointer (some ⟨b,0,none⟩), .pointer (some ⟨b+1,0,none⟩)]] 175):=⟨_,rfl⟩;have z5:Below wr.heap.size wr w8.drew:=by rw[z6];exact(Qd wr _).drew
       have h9:w8.drew.heap[wr.heap.size]?=some (.cells #[.bool false, .func (.func 137) #[] #[.pointer (some ⟨b,0,none⟩), .pointer (some ⟨b+1,0,none⟩)]] 175):=by rw[z6];exact heap_alloc_new wr _
       have c9:w8.drew.cell? ⟨wr.heap.size,1,none⟩=some (.func (.func 137) #[] #[.pointer (some ⟨b,0,none⟩), .pointer (some ⟨b+1,0,none⟩)]):=Qa h9 1 rfl;have zu:w8.drew.cell? ⟨g,18,none⟩=some (.slice A dl.length c):=Qa (Qe hv.s.row z5) 18 rfl;have KC:=(lk2_any (hv.w_ext z5) (by have:=hv.gb;omega) (by have:=hv.gb;omega) (D3 hv.sz z5.size) hR).mono fun e W' hq=>hv.arm z5 hq
       have H9:=DY h9;have HN:=hv.s.n;have HX:=Vr dl;clear hv hR HH z5 h9;generalize dl.length=n at*;generalize tv dl=xs at*;have zg:=DY (DZ HN HX);clear HN HX;go_upto_region 9 with fail
       rw[show wr.alloc (.cells #[.bool false, .func (.func 137) #[] #[.pointer (some ⟨b,0,none⟩), .pointer (some ⟨b+1,0,none⟩)]] 175)=w8 from z6.symm]
       clear z6;refine wp_region_held_drew (S:=(fun V=>V.cell? ⟨wr.heap.size,1,none⟩=some (.func (.func 137) #[] #[.pointer (some ⟨b,0,none⟩), .pointer (some ⟨b+1,0,none⟩)]))) (by kernel_rfl) ?_ (fun hHeld=>?_)
       (focus((try dsimp only);(first|with_reducible exact c9|with_reducible exact zj.out|with_reducible exact zc.out|with_reducible exact zd.out)))
       refine QD (.f 0 (.f 2 (.f 3 (.t 1 (.o 4 (.r 5 (.f 6 (.o 7 .e)))) 4 (.o 1 (.r 5 (.f 6 (.o 7 .e)))))))) ?_
       repeat' ((first|(refine QL (v:=?_) (hv:=?_) (h:=?_);rotate_left;(focus(first|(refine .inr ⟨by rfl,?_⟩;rfl)|(refine .inl ⟨by rfl,?_⟩;intro w hSw;(try dsimp only at hSw);(try simp only[D8,D4,List.getElem_cons_zero]);go_simp;try(with_reducible rfl)))))|(refine Qr (h:=?_))|((first|((first|refine Qx (h:=fun K hK=>?_)|refine Zt (h:=fun K hK=>?_) (h':=fun K hK=>?_))<;>((try simp only[D8,D4,D5]);go_simp))|(refine Q0 (h:=fun K hK=>?_)))<;>((first|(go_at_call 137;refine KC.mono ?_;rintro e w3 ⟨A2,n2,c2,z9,rfl,zi,zb,z2,zh,z3,zf,c3,z8,z4⟩;have zj:Hid (w3.cell? ⟨wr.heap.size,1,none⟩=some (.func (.func 137) #[] #[.pointer (some ⟨b,0,none⟩), .pointer (some ⟨b+1,0,none⟩)])):=DY (Qa (z8 _ _ H9.out) 1 rfl);have z0:=DY (DZ zi (DZ zb (DZ z2 (DZ zh (DZ z3 (And.intro zf (DZ (z8 _ _ H9.out) z4)))))));clear zi zb z2 zh z3 zf z8 z4)|(refine Zg (.tmp 29) (.tmp 32) _ rfl B 3 79 js _ 24 underlying74 zq zr zs zo rfl (by decide) _ n xs rfl z0.out.2.2.2.2.1 _ _ n2 c2 z9 rfl z0.out.2.1 z0.out.1 z0.out.2.2.1 (by have h1:=zg.out.1;have h2:=z0.out.2.2.2.1;simp only[maxLen];omega) (by have h1:=zg.out.1;have h2:=z0.out.2.2.2.1;omega) z0.out.2.2.2.2.2.1 ?_;intro A7 c7 w7 z1 zk;obtain⟨z7,k7,za,ze⟩:=z0.out.2.2.2.2.2.2.2 w7 A7 c7 zk z1;have zc:Hid (w7.cell? ⟨wr.heap.size,1,none⟩=some (.func (.func 137) #[] #[.pointer (some ⟨b,0,none⟩), .pointer (some ⟨b+1,0,none⟩)])):=DY (Qa (za _ _ z0.out.2.2.2.2.2.2.1).1 1 rfl);have zd:Hid ((w7.setCell ⟨g,18,none⟩ (.slice A7 (n+n2) c7)).cell? ⟨wr.heap.size,1,none⟩=some (.func (.func 137) #[] #[.pointer (some ⟨b,0,none⟩), .pointer (some ⟨b+1,0,none⟩)])):=DY (Qa (za _ _ z0.out.2.2.2.2.2.2.1).2 1 rfl);have zl:=DY ze;clear z1 zk za ze)|skip);refine hK.out _ _ ?_ (fun hHeld=>?_);(focus((try dsimp only);(first|with_reducible exact c9|with_reducible exact zj.out|with_reducible exact zc.out|with_reducible exact zd.out)));clear hK K)))<;>(try simp only[Act.put,Nc,Nf,Ng]))
       all_goals (refine Qu ?_;refine wpAnyH_done (by kernel_rfl) ?_ _)
       all_goals
        go_wp2;go_roundw
        case rel=>
         obtain⟨f',dl',h1,h2⟩:=zl.out;exact⟨1,f',dl',A7,c7,by omega,rfl,DY ⟨h1.weak (by have:=h1.s.n;omega),h2⟩⟩
        case measure=>simp[intOf]
      ·obtain⟨hv,hR⟩:=HH.out;have e0:wr.cell? ⟨b+3,2,none⟩=some (.bool false):=Qa hv.r.rb 2 rfl;have e1:wr.cell? ⟨b+3,3,none⟩=some (.func (.func 139) #[] #[.pointer (some ⟨b,0,none⟩), .pointer (some ⟨b+1,0,none⟩)]):=Qa hv.r.rb 3 rfl;obtain⟨w8,z6⟩:∃w8,w8=wr.alloc (.cells #[.bool false, .func (.func 139) #[] #[.pointer (some ⟨b,0,none⟩), .pointer (some ⟨b+1,0,none⟩)]] 175):=⟨_,rfl⟩;have z5:Below wr.heap.size wr w8.drew:=by rw[z6];exact(Qd wr _).drew
       have h9:w8.drew.heap[wr.heap.size]?=some (.cells #[.bool false, .func (.func 139) #[] #[.pointer (some ⟨b,0,none⟩), .pointer (some ⟨b+1,0,none⟩)]] 175):=by rw[z6];exact heap_alloc_new wr _
       have c9:w8.drew.cell? ⟨wr.heap.size,1,none⟩=some (.func (.func 139) #[] #[.pointer (some ⟨b,0,none⟩), .pointer (some ⟨b+1,0,none⟩)]):=Qa h9 1 rfl;have zu:w8.drew.cell? ⟨g,18,none⟩=some (.slice A dl.length c):=Qa (Qe hv.s.row z5) 18 rfl;have KC:=(lk3_any (hv.w_ext z5) (by have:=hv.gb;omega) (by have:=hv.gb;omega) (D3 hv.sz z5.size) hv.s.row hR).mono fun e W' hq=>hv.arm z5 hq
       have H9:=DY h9;have HN:=hv.s.n;have HX:=Vr dl;clear hv hR HH z5 h9;generalize dl.length=n at*;generalize tv dl=xs at*;have zg:=DY (DZ HN HX);clear HN HX;go_upto_region 9 with fail
       rw[show wr.alloc (.cells #[.bool false, .func (.func 139) #[] #[.pointer (some ⟨b,0,none⟩), .pointer (some ⟨b+1,0,none⟩)]] 175)=w8 from z6.symm]
       clear z6;refine wp_region_held_drew (S:=(fun V=>V.cell? ⟨wr.heap.size,1,none⟩=some (.func (.func 139) #[] #[.pointer (some ⟨b,0,none⟩), .pointer (some ⟨b+1,0,none⟩)]))) (by kernel_rfl) ?_ (fun hHeld=>?_)
       (focus((try dsimp only);(first|with_reducible exact c9|with_reducible exact zj.out|with_reducible exact zc.out|with_reducible exact zd.out)))
       refine QD (.f 0 (.f 2 (.f 3 (.t 1 (.o 4 (.r 5 (.f 6 (.o 7 .e)))) 4 (.o 1 (.r 5 (.f 6 (.o 7 .e)))))))) ?_
       repeat' ((first|(refine QL (v:=?_) (hv:=?_) (h:=?_);rotate_left;(focus(first|(refine .inr ⟨by rfl,?_⟩;rfl)|(refine .inl ⟨by rfl,?_⟩;intro w hSw;(try dsimp only at hSw);(try simp only[D8,D4,List.getElem_cons_zero]);go_simp;try(with_reducible rfl)))))|(refine Qr (h:=?_))|((first|((first|refine Qx (h:=fun K hK=>?_)|refine Zt (h:=fun K hK=>?_) (h':=fun K hK=>?_))<;>((try simp only[D8,D4,D5]);go_simp))|(refine Q0 (h:=fun K hK=>?_)))<;>((first|(go_at_call 139;refine KC.mono ?_;rintro e w3 ⟨A2,n2,c2,z9,rfl,zi,zb,z2,zh,z3,zf,c3,z8,z4⟩;have zj:Hid (w3.cell? ⟨wr.heap.size,1,none⟩=some (.func (.func 139) #[] #[.pointer (some ⟨b,0,none⟩), .pointer (some ⟨b+1,0,none⟩)])):=DY (Qa (z8 _ _ H9.out) 1 rfl);have z0:=DY (DZ zi (DZ zb (DZ z2 (DZ zh (DZ z3 (And.intro zf (DZ (z8 _ _ H9.out) z4)))))));clear zi zb z2 zh z3 zf z8 z4)|(refine Zg (.tmp 29) (.tmp 32) _ rfl B 3 79 js _ 24 underlying74 zq zr zs zo rfl (by decide) _ n xs rfl z0.out.2.2.2.2.1 _ _ n2 c2 z9 rfl z0.out.2.1 z0.out.1 z0.out.2.2.1 (by have h1:=zg.out.1;have h2:=z0.out.2.2.2.1;simp only[maxLen];omega) (by have h1:=zg.out.1;have h2:=z0.out.2.2.2.1;omega) z0.out.2.2.2.2.2.1 ?_;intro A7 c7 w7 z1 zk;obtain⟨z7,k7,za,ze⟩:=z0.out.2.2.2.2.2.2.2 w7 A7 c7 zk z1;have zc:Hid (w7.cell? ⟨wr.heap.size,1,none⟩=some (.func (.func 139) #[] #[.pointer (some ⟨b,0,none⟩), .pointer (some ⟨b+1,0,none⟩)])):=DY (Qa (za _ _ z0.out.2.2.2.2.2.2.1).1 1 rfl);have zd:Hid ((w7.setCell ⟨g,18,none⟩ (.slice A7 (n+n2) c7)).cell? ⟨wr.heap.size,1,none⟩=some (.func (.func 139) #[] #[.pointer (some ⟨b,0,none⟩), .pointer (some ⟨b+1,0,none⟩)])):=DY (Qa (za _ _ z0.out.2.2.2.2.2.2.1).2 1 rfl);have zl:=DY ze;clear z1 zk za ze)|skip);refine hK.out _ _ ?_ (fun hHeld=>?_);(focus((try dsimp only);(first|with_reducible exact c9|with_reducible exact zj.out|with_reducible exact zc.out|with_reducible exact zd.out)));clear hK K)))<;>(try simp only[Act.put,Nc,Nf,Ng]))
       all_goals (refine Qu ?_;refine wpAnyH_done (by kernel_rfl) ?_ _)
       all_goals
        go_wp2;go_roundw
        case rel=>
         obtain⟨f',dl',h1,h2⟩:=zl.out;exact⟨2,f',dl',A7,c7,by omega,rfl,DY ⟨h1.weak (by have:=h1.s.n;omega),h2⟩⟩
        case measure=>simp[intOf]
      ·obtain⟨hv,hR⟩:=HH.out;have e0:wr.cell? ⟨b+3,4,none⟩=some (.bool false):=Qa hv.r.rb 4 rfl;have e1:wr.cell? ⟨b+3,5,none⟩=some (.func (.func 141) #[] #[.pointer (some ⟨b,0,none⟩), .pointer (some ⟨b+1,0,none⟩)]):=Qa hv.r.rb 5 rfl;obtain⟨w8,z6⟩:∃w8,w8=wr.alloc (.cells #[.bool false, .func (.func 141) #[] #[.pointer (some ⟨b,0,none⟩), .pointer (some ⟨b+1,0,none⟩)]] 175):=⟨_,rfl⟩;have z5:Below wr.heap.size wr w8.drew:=by rw[z6];exact(Qd wr _).drew
       have h9:w8.drew.heap[wr.heap.size]?=some (.cells #[.bool false, .func (.func 141) #[] #[.pointer (some ⟨b,0,none⟩), .pointer (some ⟨b+1,0,none⟩)]] 175):=by rw[z6];exact heap_alloc_new wr _
       have c9:w8.drew.cell? ⟨wr.heap.size,1,none⟩=some (.func (.func 141) #[] #[.pointer (some ⟨b,0,none⟩), .pointer (some ⟨b+1,0,none⟩)]):=Qa h9 1 rfl;have zu:w8.drew.cell? ⟨g,18,none⟩=some (.slice A dl.length c):=Qa (Qe hv.s.row z5) 18 rfl;have KC:=(lk4_any (hv.w_ext z5) (by have:=hv.gb;omega) (by have:=hv.gb;omega) (D3 hv.sz z5.size) hv.s.row hR).mono fun e W' hq=>hv.arm z5 hq
       have H9:=DY h9;have HN:=hv.s.n;have HX:=Vr dl;clear hv hR HH z5 h9;generalize dl.length=n at*;generalize tv dl=xs at*;have zg:=DY (DZ HN HX);clear HN HX;go_upto_region 9 with fail
       rw[show wr.alloc (.cells #[.bool false, .func (.func 141) #[] #[.pointer (some ⟨b,0,none⟩), .pointer (some ⟨b+1,0,none⟩)]] 175)=w8 from z6.symm]
       clear z6;refine wp_region_held_drew (S:=(fun V=>V.cell? ⟨wr.heap.size,1,none⟩=some (.func (.func 141) #[] #[.pointer (some ⟨b,0,none⟩), .pointer (some ⟨b+1,0,none⟩)]))) (by kernel_rfl) ?_ (fun hHeld=>?_)
       (focus((try dsimp only);(first|with_reducible exact c9|with_reducible exact zj.out|with_reducible exact zc.out|with_reducible exact zd.out)))
       refine QD (.f 0 (.f 2 (.f 3 (.t 1 (.o 4 (.r 5 (.f 6 (.o 7 .e)))) 4 (.o 1 (.r 5 (.f 6 (.o 7 .e)))))))) ?_
       repeat' ((first|(refine QL (v:=?_) (hv:=?_) (h:=?_);rotate_left;(focus(first|(refine .inr ⟨by rfl,?_⟩;rfl)|(refine .inl ⟨by rfl,?_⟩;intro w hSw;(try dsimp only at hSw);(try simp only[D8,D4,List.getElem_cons_zero]);go_simp;try(with_reducible rfl)))))|(refine Qr (h:=?_))|((first|((first|refine Qx (h:=fun K hK=>?_)|refine Zt (h:=fun K hK=>?_) (h':=fun K hK=>?_))<;>((try simp only[D8,D4,D5]);go_simp))|(refine Q0 (h:=fun K hK=>?_)))<;>((first|(go_at_call 141;refine KC.mono ?_;rintro e w3 ⟨A2,n2,c2,z9,rfl,zi,zb,z2,zh,z3,zf,c3,z8,z4⟩;have zj:Hid (w3.cell? ⟨wr.heap.size,1,none⟩=some (.func (.func 141) #[] #[.pointer (some ⟨b,0,none⟩), .pointer (some ⟨b+1,0,none⟩)])):=DY (Qa (z8 _ _ H9.out) 1 rfl);have z0:=DY (DZ zi (DZ zb (DZ z2 (DZ zh (DZ z3 (And.intro zf (DZ (z8 _ _ H9.out) z4)))))));clear zi zb z2 zh z3 zf z8 z4)|(refine Zg (.tmp 29) (.tmp 32) _ rfl B 3 79 js _ 24 underlying74 zq zr zs zo rfl (by decide) _ n xs rfl z0.out.2.2.2.2.1 _ _ n2 c2 z9 rfl z0.out.2.1 z0.out.1 z0.out.2.2.1 (by have h1:=zg.out.1;have h2:=z0.out.2.2.2.1;simp only[maxLen];omega) (by have h1:=zg.out.1;have h2:=z0.out.2.2.2.1;omega) z0.out.2.2.2.2.2.1 ?_;intro A7 c7 w7 z1 zk;obtain⟨z7,k7,za,ze⟩:=z0.out.2.2.2.2.2.2.2 w7 A7 c7 zk z1;have zc:Hid (w7.cell? ⟨wr.heap.size,1,none⟩=some (.func (.func 141) #[] #[.pointer (some ⟨b,0,none⟩), .pointer (some ⟨b+1,0,none⟩)])):=DY (Qa (za _ _ z0.out.2.2.2.2.2.2.1).1 1 rfl);have zd:Hid ((w7.setCell ⟨g,18,none⟩ (.slice A7 (n+n2) c7)).cell? ⟨wr.heap.size,1,none⟩=some (.func (.func 141) #[] #[.pointer (some ⟨b,0,none⟩), .pointer (some ⟨b+1,0,none⟩)])):=DY (Qa (za _ _ z0.out.2.2.2.2.2.2.1).2 1 rfl);have zl:=DY ze;clear z1 zk za ze)|skip);refine hK.out _ _ ?_ (fun hHeld=>?_);(focus((try dsimp only);(first|with_reducible exact c9|with_reducible exact zj.out|with_reducible exact zc.out|with_reducible exact zd.out)));clear hK K)))<;>(try simp only[Act.put,Nc,Nf,Ng]))
       all_goals (refine Qu ?_;refine wpAnyH_done (by kernel_rfl) ?_ _)
       all_goals
        go_wp2;go_roundw
        case rel=>
         obtain⟨f',dl',h1,h2⟩:=zl.out;exact⟨3,f',dl',A7,c7,by omega,rfl,DY ⟨h1.weak (by have:=h1.s.n;omega),h2⟩⟩
        case measure=>simp[intOf]
      ·go_wp2_with fail
       go_roundw
       case rel=>exact⟨2,2,f,dl,A,c,by omega,rfl,rfl,DY ⟨HH.out.1.weak (by have:=HH.out.1.s.n;omega),HH.out.2.leave rfl⟩⟩
       case measure=>simp[intOf]
    ·obtain rfl:pq=2:=by omega
     clear zw;have qp:wr.cell? ⟨b+5,2,none⟩=some (.slice (some ⟨b+4,0,none⟩) 2 2):=Qa hv.r.rp 2 rfl;have HV:=DY (DZ hv (DZ hR hd));clear hv he hR hd HH zv;go_wp2_with fail
     rename World=>wl
     go_loopw [24] (fun j wr=>∃(k:Nat) (f:Fd) (dl:List S3) (A:Option Addr) (c:Nat),k<=2/\j= .int .i64 k/\Hid (LkV bs m base g b B w1 wr f dl A c (k*1000000000000)/\LkR bs B 2 k wr f dl)) (fun j _=>2-(intOf j).toNat)
     case atStart=>exact⟨0,f,dl,A,c,by omega,rfl,DY ⟨HV.out.1.weak (by rw[HV.out.2.2];exact Lb _),HV.out.2.1⟩⟩
     case round=>
      clear HV qp d18';obtain⟨k,f,dl,A,c,hk,rfl,HH⟩:=hrel;rcases(show k=0∨k=1∨k=2 by omega) with rfl|rfl|rfl
      ·obtain⟨hv,hR⟩:=HH.out;have e0:wr.cell? ⟨b+4,0,none⟩=some (.bool true):=Qa hv.r.rc 0 rfl;have e1:wr.cell? ⟨b+4,1,none⟩=some (.func (.func 143) #[] #[]):=Qa hv.r.rc 1 rfl;obtain⟨w8,z6⟩:=DR (wr.alloc (.cells #[.bool true, .func (.func 143) #[] #[]] 175));have z5:Below wr.heap.size wr w8.drew:=by rw[z6];exact(Qd wr _).drew
       have h9:w8.drew.heap[wr.heap.size]?=some (.cells #[.bool true, .func (.func 143) #[] #[]] 175):=by rw[z6];exact heap_alloc_new wr _
       have c9:w8.drew.cell? ⟨wr.heap.size,1,none⟩=some (.func (.func 143) #[] #[]):=Qa h9 1 rfl;have zu:w8.drew.cell? ⟨g,18,none⟩=some (.slice A dl.length c):=Qa (Qe hv.s.row z5) 18 rfl;have KC:=(lk5_any (hv.w_ext z5) z5 hv.s.row hR).mono fun e W' hq=>hv.arm z5 hq
       have H9:=DY h9;have HN:=hv.s.n;have HX:=Vr dl;clear hv hR HH z5 h9;generalize dl.length=n at*;generalize tv dl=xs at*;have zg:=DY (DZ HN HX);clear HN HX;go_upto_region 9 with fail
       rw[<-z6];clear z6;refine wp_region_held_drew (S:=(fun V=>V.cell? ⟨wr.heap.size,1,none⟩=some (.func (.func 143) #[] #[]))) (by kernel_rfl) ?_ (fun hHeld=>?_)
       (focus((try dsimp only);(first|with_reducible exact c9|with_reducible exact zj.out|with_reducible exact zc.out|with_reducible exact zd.out)))
       refine QD (.f 0 (.f 2 (.f 3 (.t 1 (.o 4 (.r 5 (.f 6 (.o 7 .e)))) 4 (.o 1 (.r 5 (.f 6 (.o 7 .e)))))))) ?_
       repeat' ((first|(refine QL (v:=?_) (hv:=?_) (h:=?_);rotate_left;(focus(first|(refine .inr ⟨by rfl,?_⟩;rfl)|(refine .inl ⟨by rfl,?_⟩;intro w hSw;(try dsimp only at hSw);(try simp only[D8,D4,List.getElem_cons_zero]);go_simp;try(with_reducible rfl)))))|(refine Qr (h:=?_))|((first|((first|refine Qx (h:=fun K hK=>?_)|refine Zt (h:=fun K hK=>?_) (h':=fun K hK=>?_))<;>((try simp only[D8,D4,D5]);go_simp))|(refine Q0 (h:=fun K hK=>?_)))<;>((first|(go_at_call 143;refine KC.mono ?_;rintro e w3 ⟨A2,n2,c2,z9,rfl,zi,zb,z2,zh,z3,zf,c3,z8,z4⟩;have zj:Hid (w3.cell? ⟨wr.heap.size,1,none⟩=some (.func (.func 143) #[] #[])):=DY (Qa (z8 _ _ H9.out) 1 rfl);have z0:=DY (DZ zi (DZ zb (DZ z2 (DZ zh (DZ z3 (DZ zf (DZ (z8 _ _ H9.out) z4)))))));clear zi zb z2 zh z3 zf z8 z4)|(refine Zg (.tmp 29) (.tmp 32) _ rfl B 3 79 js _ 24 underlying74 zq zr zs zo rfl (by decide) _ n xs rfl z0.out.2.2.2.2.1 _ _ n2 c2 z9 rfl z0.out.2.1 z0.out.1 z0.out.2.2.1 (by have h1:=zg.out.1;have h2:=z0.out.2.2.2.1;simp only[maxLen];omega) (by have h1:=zg.out.1;have h2:=z0.out.2.2.2.1;omega) z0.out.2.2.2.2.2.1 ?_;intro A7 c7 w7 z1 zk;obtain⟨z7,k7,za,ze⟩:=z0.out.2.2.2.2.2.2.2 w7 A7 c7 zk z1;have zc:Hid (w7.cell? ⟨wr.heap.size,1,none⟩=some (.func (.func 143) #[] #[])):=DY (Qa (za _ _ z0.out.2.2.2.2.2.2.1).1 1 rfl);have zd:Hid ((w7.setCell ⟨g,18,none⟩ (.slice A7 (n+n2) c7)).cell? ⟨wr.heap.size,1,none⟩=some (.func (.func 143) #[] #[])):=DY (Qa (za _ _ z0.out.2.2.2.2.2.2.1).2 1 rfl);have zl:=DY ze;clear z1 zk za ze)|skip);refine hK.out _ _ ?_ (fun hHeld=>?_);(focus((try dsimp only);(first|with_reducible exact c9|with_reducible exact zj.out|with_reducible exact zc.out|with_reducible exact zd.out)));clear hK K)))<;>(try simp only[Act.put,Nc,Nf,Ng]))
       all_goals (refine Qu ?_;refine wpAnyH_done (by kernel_rfl) ?_ _)
       all_goals
        go_wp2;go_roundw
        case rel=>
         obtain⟨f',dl',h1,h2⟩:=zl.out;exact⟨1,f',dl',A7,c7,by omega,rfl,DY ⟨h1.weak (by have:=h1.s.n;omega),h2⟩⟩
        case measure=>simp[intOf]
      ·obtain⟨hv,hR⟩:=HH.out;have e0:wr.cell? ⟨b+4,2,none⟩=some (.bool true):=Qa hv.r.rc 2 rfl;have e1:wr.cell? ⟨b+4,3,none⟩=some (.func (.func 145) #[] #[.pointer (some ⟨b,0,none⟩)]):=Qa hv.r.rc 3 rfl;obtain⟨w8,z6⟩:∃w8,w8=wr.alloc (.cells #[.bool true, .func (.func 145) #[] #[.pointer (some ⟨b,0,none⟩)]] 175):=⟨_,rfl⟩;have z5:Below wr.heap.size wr w8.drew:=by rw[z6];exact(Qd wr _).drew
       have h9:w8.drew.heap[wr.heap.size]?=some (.cells #[.bool true, .func (.func 145) #[] #[.pointer (some ⟨b,0,none⟩)]] 175):=by rw[z6];exact heap_alloc_new wr _
       have c9:w8.drew.cell? ⟨wr.heap.size,1,none⟩=some (.func (.func 145) #[] #[.pointer (some ⟨b,0,none⟩)]):=Qa h9 1 rfl;have zu:w8.drew.cell? ⟨g,18,none⟩=some (.slice A dl.length c):=Qa (Qe hv.s.row z5) 18 rfl;have KC:=(lk6_any (hv.w_ext z5) z5 hv.s.row hR).mono fun e W' hq=>hv.arm z5 hq
       have H9:=DY h9;have HN:=hv.s.n;have HX:=Vr dl;clear hv hR HH z5 h9;generalize dl.length=n at*;generalize tv dl=xs at*;have zg:=DY (DZ HN HX);clear HN HX;go_upto_region 9 with fail
       rw[show wr.alloc (.cells #[.bool true, .func (.func 145) #[] #[.pointer (some ⟨b,0,none⟩)]] 175)=w8 from z6.symm]
       clear z6;refine wp_region_held_drew (S:=(fun V=>V.cell? ⟨wr.heap.size,1,none⟩=some (.func (.func 145) #[] #[.pointer (some ⟨b,0,none⟩)]))) (by kernel_rfl) ?_ (fun hHeld=>?_)
       (focus((try dsimp only);(first|with_reducible exact c9|with_reducible exact zj.out|with_reducible exact zc.out|with_reducible exact zd.out)))
       refine QD (.f 0 (.f 2 (.f 3 (.t 1 (.o 4 (.r 5 (.f 6 (.o 7 .e)))) 4 (.o 1 (.r 5 (.f 6 (.o 7 .e)))))))) ?_
       repeat' ((first|(refine QL (v:=?_) (hv:=?_) (h:=?_);rotate_left;(focus(first|(refine .inr ⟨by rfl,?_⟩;rfl)|(refine .inl ⟨by rfl,?_⟩;intro w hSw;(try dsimp only at hSw);(try simp only[D8,D4,List.getElem_cons_zero]);go_simp;try(with_reducible rfl)))))|(refine Qr (h:=?_))|((first|((first|refine Qx (h:=fun K hK=>?_)|refine Zt (h:=fun K hK=>?_) (h':=fun K hK=>?_))<;>((try simp only[D8,D4,D5]);go_simp))|(refine Q0 (h:=fun K hK=>?_)))<;>((first|(go_at_call 145;refine KC.mono ?_;rintro e w3 ⟨A2,n2,c2,z9,rfl,zi,zb,z2,zh,z3,zf,c3,z8,z4⟩;have zj:Hid (w3.cell? ⟨wr.heap.size,1,none⟩=some (.func (.func 145) #[] #[.pointer (some ⟨b,0,none⟩)])):=DY (Qa (z8 _ _ H9.out) 1 rfl);have z0:=DY (DZ zi (DZ zb (DZ z2 (DZ zh (DZ z3 (And.intro zf (DZ (z8 _ _ H9.out) z4)))))));clear zi zb z2 zh z3 zf z8 z4)|(refine Zg (.tmp 29) (.tmp 32) _ rfl B 3 79 js _ 24 underlying74 zq zr zs zo rfl (by decide) _ n xs rfl z0.out.2.2.2.2.1 _ _ n2 c2 z9 rfl z0.out.2.1 z0.out.1 z0.out.2.2.1 (by have h1:=zg.out.1;have h2:=z0.out.2.2.2.1;simp only[maxLen];omega) (by have h1:=zg.out.1;have h2:=z0.out.2.2.2.1;omega) z0.out.2.2.2.2.2.1 ?_;intro A7 c7 w7 z1 zk;obtain⟨z7,k7,za,ze⟩:=z0.out.2.2.2.2.2.2.2 w7 A7 c7 zk z1;have zc:Hid (w7.cell? ⟨wr.heap.size,1,none⟩=some (.func (.func 145) #[] #[.pointer (some ⟨b,0,none⟩)])):=DY (Qa (za _ _ z0.out.2.2.2.2.2.2.1).1 1 rfl);have zd:Hid ((w7.setCell ⟨g,18,none⟩ (.slice A7 (n+n2) c7)).cell? ⟨wr.heap.size,1,none⟩=some (.func (.func 145) #[] #[.pointer (some ⟨b,0,none⟩)])):=DY (Qa (za _ _ z0.out.2.2.2.2.2.2.1).2 1 rfl);have zl:=DY ze;clear z1 zk za ze)|skip);refine hK.out _ _ ?_ (fun hHeld=>?_);(focus((try dsimp only);(first|with_reducible exact c9|with_reducible exact zj.out|with_reducible exact zc.out|with_reducible exact zd.out)));clear hK K)))<;>(try simp only[Act.put,Nc,Nf,Ng]))
       all_goals (refine Qu ?_;refine wpAnyH_done (by kernel_rfl) ?_ _)
       all_goals
        go_wp2;go_roundw
        case rel=>
         obtain⟨f',dl',h1,h2⟩:=zl.out;exact⟨2,f',dl',A7,c7,by omega,rfl,DY ⟨h1.weak (by have:=h1.s.n;omega),h2⟩⟩
        case measure=>simp[intOf]
      ·go_wp2_with fail
       go_roundw
       case rel=>exact⟨3,3,f,dl,A,c,by omega,rfl,rfl,DY ⟨HH.out.1.weak (by have:=HH.out.1.s.n;omega),HH.out.2.leave rfl⟩⟩
       case measure=>simp[intOf]
   ·have hdn:decide (0<dl.length)=true:=decide_eq_true (LQ.2 hd);have HV:=Lib.hid (DZ hv he);have HP:Hid (dl≠[]∨p=3):=DY (.inl hd);rcases(show(p=0/\pq=0)∨(p=1/\pq=1)∨(p=2/\pq=2) by omega) with⟨rfl,rfl⟩|⟨rfl,rfl⟩|⟨rfl,rfl⟩
    all_goals
     clear zw;have qp:=Qa hv.r.rp 0 rfl;have qp1:=Qa hv.r.rp 1 rfl;have qp2:=Qa hv.r.rp 2 rfl;clear hv he hd hp hp3;have zt:=HV.out.1.r0row zF (by omega);have zn:=Dv f (.slice A dl.length c);have z2:=fd_one f A dl.length c;have zm:=HV.out.1.s.row;have zA:Hid (((fd0.cells (.slice none 0 0)).size)=(f.cells (.slice A dl.length c)).size):=rfl;clear HH;generalize hC:f.cells (.slice A dl.length c)=C at*;have zz:=DY hC;clear hC;have zC:=DY zt;go_wp2_with (first|(refine wpList_load_row rfl 76 _ rfl g rfl 76 _ _ _ zm underlying76 rfl zn ?_)|(refine Ql rfl 76 _ _ rfl w.heap.size C rfl rfl (fd0.cells (.slice none 0 0)) 76 zt zA.out zn z2 ?_;intro w4 h4 zD zJ))
     refine bodyPost_ret (v:= .agg C) (results_cell_row (p:=4) rfl _ _ w.heap.size 76 C _ _ rfl h4 underlying76 rfl zn) rfl ?_;obtain⟨x1,x2,x3⟩:=HV.out.1.fin HV.out.2 HP zE rfl zy zC zD;exact⟨f,dl,A,c,by rw[zz.out],x1,x2,x3⟩
end Go.Proofs.YtijcgllddnpmhaaGreatDoor
