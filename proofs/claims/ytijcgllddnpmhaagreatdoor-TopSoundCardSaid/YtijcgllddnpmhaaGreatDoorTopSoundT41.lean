/- TopSound: lemmas, part 41. -/
import Derived.Test.YtijcgllddnpmhaaGreatDoorTopSoundT40
set_option maxRecDepth 100000
set_option maxHeartbeats 16000000
set_option linter.all false
namespace Go.Proofs.YtijcgllddnpmhaaGreatDoor
open Go.RowKit Go.Proofs.Tryz
theorem UA{α:Type}{f:α->List Int->Option (List Int)}(hf:∀x cs cs',f x cs=some cs'->cs'.length=cs.length):∀(l:List α) (cs cs':List Int),Xg f l cs=some cs'->cs'.length=cs.length
 |[],cs,cs',h=>by cases h;rfl
 |x::r,cs,cs',h=>by
  unfold Xg at h;cases hx:f x cs with
  |none=>rw[hx] at h;cases h
  |some c1=>
   rw[hx] at h;exact(UA hf r c1 cs' h).trans (hf x cs c1 hx)
theorem U3(bs:List UInt8):∀(d:Nat) (r:Int×Int) (cs cs':List Int),QJ bs d r cs=some cs'->cs'.length=cs.length
 |0,_,_,_,h=>by cases h
 |d+1,r,cs,cs',h=>by
  unfold QJ at h
  split at h
  ·split at h
   ·cases h;simp
   ·have h2:cs'.length=(cs.set r.1.toNat (cs.getD r.1.toNat 0+1)).length:=by
     generalize cs.set r.1.toNat (cs.getD r.1.toNat 0+1)=c1 at*;unfold Ud at h
     split at h
     ·cases hi:Zs bs r.1 with
      |none=>rw[hi] at h;cases h
      |some l=>
       rw[hi] at h;exact UA (fun x cs cs' hh=>U3 bs d _ cs cs' hh) l c1 cs' h
     ·split at h
      ·cases hb:ZV bs r.1 with
       |none=>rw[hb] at h;cases h
       |some l=>rw[hb] at h;cases h;rfl
      ·cases hn:ZD bs r.1 r.2 with
       |none=>rw[hn] at h;cases h
       |some n=>
        rw[hn] at h;refine UA (fun v cs cs' hh=>?_) n.vals c1 cs' h;cases hr:Oy n v with
        |none=>rw[hr] at hh;cases hh
        |some q=>
         rw[hr] at hh;cases q with
         |none=>cases hh;rfl
         |some r=>exact U3 bs d r cs cs' hh
    rw[h2];simp
  ·cases h
theorem RT{bs:List UInt8}{s:Nat->Int}{c:List Int}(h:XJ bs s=some c):c.length<=14400:=by
 unfold XJ at h
 split at h
 ·rename_i ho
  have h1:=UA (fun x cs cs' hh=>U3 bs _ x cs cs' hh) _ _ _ h;rw[h1];have:=(VA ho).2.2.2.2;simp;omega
 ·cases h
theorem ccounts_any{w:World}{base m g:Nat}{bs:List UInt8}(hi:ZH w base m bs)(hbs:base<=w.heap.size)(hT:XC w){s:Nat->Int}{p0 p1 p2 p3:Int}{P D X:Value}{QA:Option Addr}{Qc:Nat}{l:List Int}(hg:w.heap[g]?=some (.cells (fdC s p0 p1 p2 p3 P D (.slice QA l.length Qc) X) 76))(hl:Qh w w.heap.size QA (iv l))(hll:l.length<=200000):
  Calls prog 146 #[.pointer (some ⟨m,0,none⟩), .pointer (some ⟨g,0,none⟩)] w fun e w'=>∃dl,StR w w' g e dl/\Below w.heap.size w w'/\(dl=[]↔∃c,XJ bs s=some c/\(Zl l c).length=0):=by
 have KR:=RU hi hbs s;have z3:QQ s=#[.int .i64 (s 0), .int .i64 (s 1), .int .i64 (s 2), .int .i64 (s 3), .int .i64 (s 4), .int .i64 (s 5), .int .i64 (s 6), .int .i64 (s 7), .int .i64 (s 8), .int .i64 (s 9), .int .i64 (s 10)]:=rfl;rw[z3] at KR;have zc:=fun c (h:XJ bs s=some c)=>RT h
 have c0:=Qa hg 0 rfl;have c1:=Qa hg 1 rfl;have c2:=Qa hg 2 rfl;have c3:=Qa hg 3 rfl;have c4:=Qa hg 4 rfl;have c5:=Qa hg 5 rfl;have c6:=Qa hg 6 rfl;have c7:=Qa hg 7 rfl;have c8:=Qa hg 8 rfl;have c9:=Qa hg 9 rfl;have za:=Qa hg 10 rfl;have z8:=Qa hg 17 rfl;have HT:=DY hT;have zf:=DY zc;have HL:=DY (DZ hl hll);generalize XJ bs s=q at*;clear hi hbs hT hg hl hll z3 zc;go_enter func146,ntmps146
 go_wp2_with fail
 refine KR.mono ?_;rintro e w2 ⟨⟨L,A,n,c,hL,rfl,z2,hc,ho⟩|⟨hL,v,rfl,hv⟩,z0⟩
 ·obtain⟨r,z7,rfl⟩:∃r,q=some r/\L=iv r:=by
   cases q with
   |none=>cases hL
   |some x=>cases hL;exact⟨x,rfl,rfl⟩
  have hn:n=r.length:=by simpa[iv] using z2.symm
  subst hn;have z6:=zf.out r z7;have KC:=OS 8 QA Qc l A c r w2 HL.out.2 (by omega) (HL.out.1.ext z0) (Qh.of_own ho);have zg:=DY (show(Zl l r).length<=1000000000000 from D3 (Rn l r _) (by have:=HL.out.2;omega));have c17':=Qg z0 z8;have HX:=DY (And.intro z7 z0);clear KR hL z2 hc ho z0 z7 z6 z8 c0 c1 c2 c3 c4 c5 c6 c7 c8 c9 za;go_wp2_with fail
  refine KC.mono ?_;rintro e w3 ⟨v3,rfl,zb,z5⟩;obtain⟨dl,A4,c4,rfl,z4,z1⟩:=some_dmg zb;have HF:=DY (And.intro z4 (DZ z1 z5));clear KC zb z4 z1 z5;go_wp2;go_ret;obtain⟨z4,z1,z5⟩:=HF.out;have hb:=Qb HX.out.2 z5;refine⟨dl,⟨A4,c4,rfl,by rw[z1];exact zg.out,QO z4 HX.out.2.size,Xc hb _⟩,hb,?_⟩
  rw[HX.out.1];constructor
  ·rintro rfl;exact⟨r,rfl,by rw[<-z1];rfl⟩
  ·rintro⟨c,hc,h0⟩;cases hc;exact Lp.1 (by rw[z1];exact h0)
 ·have zd:q=none:=by
   cases q with
   |none=>rfl
   |some x=>cases hL
  have KO:=R4 7 v w2 20 (by decide) hv (HT.out.below z0);obtain⟨vt,vx,rfl⟩:=hv.form;have HX:=DY (And.intro zd z0);clear KR hL hv z0 zd c0 c1 c2 c3 c4 c5 c6 c7 c8 c9 za z8;go_wp2_with fail
  refine KO.mono ?_;rintro e w4 ⟨a,c,rfl,z9⟩;have ze:=DY (Qb HX.out.2 z9);clear KO z9;go_wp2;go_ret;have hb:=Qb ze (Qd w4 (.cells #[.int .i64 7, .int .i64 a, .int .i64 c] 79));refine⟨[(7,a,c)],⟨_,_,rfl,by simp,Jm w4 w.heap.size ze.out.size 79 _ _ _,Xc hb _⟩,hb,?_⟩
  rw[HX.out.1];simp
theorem st6_any{w:World}{base m g b0:Nat}{bs:List UInt8}(hi:ZH w base m bs)(hbs:base<=w.heap.size)(hT:XC w){s:Nat->Int}{p0 p1 p2 p3:Int}{P D X:Value}{QA:Option Addr}{Qc:Nat}{l:List Int}(hg:w.heap[g]?=some (.cells (fdC s p0 p1 p2 p3 P D (.slice QA l.length Qc) X) 76))(hl:Qh w w.heap.size QA (iv l))(hll:l.length<=200000)(hm:w.cell? ⟨b0,0,none⟩=some (.pointer (some ⟨m,0,none⟩))):
  Calls prog 145 #[.pointer (some ⟨g,0,none⟩), .pointer (some ⟨b0,0,none⟩)] w fun e w'=>∃dl,StR w w' g e dl/\Below w.heap.size w w'/\(dl=[]↔∃c,XJ bs s=some c/\(Zl l c).length=0):=by
 have KC:=ccounts_any hi hbs hT hg hl hll;clear hi hbs hT hg hl hll;go_enter func145,ntmps145
 go_wp2_with fail
 refine KC.mono ?_;rintro e w2 ⟨dl,⟨A,c,rfl,hn,ho,hg⟩,hb,hd⟩;have HF:=DY (DZ ho (DZ hg (DZ hb (DZ hd hn))));clear KC ho hg hb hd hn;go_wp2;go_ret;exact⟨dl,⟨A,c,rfl,HF.out.2.2.2.2,HF.out.1,HF.out.2.1⟩,HF.out.2.2.1,HF.out.2.2.2.1⟩
def Ra(b:Nat):Value:= .pointer (some ⟨b,0,none⟩)
def rowA(b:Nat):Array Value:=#[.bool false, .func (.func 135) #[] #[Ra b]]
def rowB(b:Nat):Array Value:=#[.bool false, .func (.func 137) #[] #[Ra b,Ra (b+1)], .bool false, .func (.func 139) #[] #[Ra b,Ra (b+1)], .bool false, .func (.func 141) #[] #[Ra b,Ra (b+1)]]
def rowC(b:Nat):Array Value:=#[.bool true, .func (.func 143) #[] #[], .bool true, .func (.func 145) #[] #[Ra b]]
def rowP(b:Nat):Array Value:=#[.slice (some ⟨b+2,0,none⟩) 1 1, .slice (some ⟨b+3,0,none⟩) 3 3, .slice (some ⟨b+4,0,none⟩) 2 2]
def stW(w:World)(m:Nat)(fuel:Int):World:=
 (((((w.alloc (.cells #[Ra m] 24)).alloc (.cells #[.int .i64 fuel] 3)).alloc (.cells (rowA w.heap.size) 175)).alloc (.cells (rowB w.heap.size) 175)).alloc (.cells (rowC w.heap.size) 175)).alloc (.cells (rowP w.heap.size) 172)
theorem stages_any(w:World)(m:Nat)(fuel:Int):Calls prog 79 #[.pointer (some ⟨m,0,none⟩), .int .i64 fuel] w fun e w'=>e= .returned (.slice (some ⟨w.heap.size+5,0,none⟩) 3 3)/\w'=stW w m fuel:=by
 go_enter func79,ntmps79
 go_wp2;go_ret;exact⟨rfl,rfl⟩
end Go.Proofs.YtijcgllddnpmhaaGreatDoor
