/- TopSound: lemmas, part 7. -/
import Derived.Test.YtijcgllddnpmhaaGreatDoorTopSoundT03
set_option maxRecDepth 100000
set_option maxHeartbeats 16000000
set_option linter.all false
namespace Go.Proofs.YtijcgllddnpmhaaGreatDoor
open Go.RowKit Go.Proofs.Tryz
def Img(w:World)(B g:Nat)(A:Option Addr)(c:Nat)(bs:List UInt8):Prop:=
 Boxed w g 63 (.slice A bs.length c)/\w.ownsRow B 5 1 (.slice A bs.length c) bs.length (bv bs)/\bs.length<=3686400/\B<=g
def GivesImg(w:World)(bs:List UInt8)(e:Ending)(w':World):Prop:=∃g A c,e= .returned (.pointer (some ⟨g,0,none⟩))/\Img w' w.heap.size g A c bs/\Below w.heap.size w w'
section
variable {w w':World} {B g:Nat} {A:Option Addr} {c:Nat} {bs:List UInt8}
theorem Img.below(h:Img w B g A c bs)(hb:Below w.heap.size w w'):Img w' B g A c bs:=⟨Qe h.1 hb,QT h.2.1 hb,h.2.2⟩
theorem Img.kept{row:Option Nat}(h:Img w B g A c bs)(hg:w.grownBy w' row)(h1:row≠some g)(h2:(Value.slice A bs.length c).ownBlock=none∨(Value.slice A bs.length c).ownBlock≠row):Img w' B g A c bs:=
 ⟨h.1.kept hg (fun e=>h1 e.symm),h.2.1.kept hg h2,h.2.2⟩
theorem Img.cell(h:Img w B g A c bs):w.cell? ⟨g,0,none⟩=some (.slice A bs.length c):=h.1.cell
theorem Img.lt(h:Img w B g A c bs):g<w.heap.size:=h.1.lt
theorem Img.reads(h:Img w B g A c bs):Qh w w.heap.size A (bv bs):=Qh.of_own h.2.1
end
theorem XW{w:World}{B g:Nat}{A:Option Addr}{c:Nat}{bs:List UInt8}(h:Img w B g A c bs):
  Calls prog 54 #[.pointer (some ⟨g,0,none⟩)] w fun e w'=>e= .returned (.int .i64 (bs.length / 256:Nat))/\w=w':=by
 have hc:=h.cell;have hl:=h.2.2.1;clear h;go_enter func54,ntmps54
 go_wp2;go_ret;exact⟨rfl,rfl⟩
theorem ibytes_any{w:World}{B g:Nat}{A:Option Addr}{c:Nat}{bs:List UInt8}(h:Img w B g A c bs):
  Calls prog 22 #[.pointer (some ⟨g,0,none⟩)] w (XQ 5 (bv bs) w):=by
 have hc:=h.cell;have hr:=Oe A c bs w _ (Na _) (by have:=h.2.2.1;simp only[reachBytes];omega) h.reads;clear h;go_enter func22,ntmps22
 go_wp2_with fail
 refine hr.mono ?_;rintro e w2 ⟨A2,c2,rfl,z0,hb⟩;clear hr;go_wp2;go_ret;exact⟨A2,c2,rfl,z0,hb⟩
theorem made_bytes(n:Nat):(madeCells (Value.int .u8 0).cells (n*1)).toList=bv (List.replicate n 0):=by
 rw[NE];apply Lo
 ·simp[madeCells,bv]
 ·intro i h1 h2;simp[madeCells,bv,Value.cells,LT]
theorem inew_ok(n:Nat)(hn:n<=14400)(w:World):
  Calls prog 59 #[.int .i64 n] w fun e w'=>∃g A c,e= .returned (.tuple #[.pointer (some ⟨g,0,none⟩), .int .i64 0])/\Img w' w.heap.size g A c (List.replicate (n*256) 0)/\Below w.heap.size w w':=by
 obtain⟨i0,hi,z3,z1,z2⟩:=info_parts Tryz.infoByte;have d1:decide ((n:Int)<0)=false:=decide_eq_false (by omega);have d2:decide ((14400:Int)<n)=false:=decide_eq_false (by omega);go_enter func59,ntmps59
 go_wp2_with (at_make;refine wpList_make_full _ rfl (.tmp 11) (.tmp 11) _ rfl w.heap.size 5 i0 _ 1 underlying22 hi z3 z1 .i64 .i64 ((n:Int)*256) ((n:Int)*256) (n*256) rfl rfl (by omega) (by omega) (by rw[z2];omega) (by simp only[maxLen];omega) (Na _) ?_;intro w1 z0 hg)
 rw[made_bytes] at z0;have hB:Below w.heap.size w w1:=(D6 _ _).grown hg (Na _) (fun k hk=>by cases hk);go_ret2
 refine⟨w1.heap.size,some ⟨w.heap.size,0,none⟩,n*256,rfl,⟨?_,?_,?_,hB.size⟩,hB.alloc hB.size _⟩
 ·rw[Nn];exact Boxed.new _ _ _
 ·rw[Nn];exact z0.alloc _
 ·rw[Nn];omega
theorem block_ok{w:World}{B g:Nat}{A:Option Addr}{c:Nat}{bs:List UInt8}(h:Img w B g A c bs)(k:Nat)(hk:k<bs.length / 256):
  ∃h0,A=some ⟨h0,0,none⟩/\Calls prog 205 #[.pointer (some ⟨g,0,none⟩), .int .i64 k] w fun e w'=>e= .returned (.tuple #[.slice (some ⟨h0,k*256,none⟩) 256 256, .int .i64 0])/\w=w':=by
 have hc:=h.cell;have hl:=h.2.2.1;have hb:=XW h;obtain⟨h0,z0,hA,hcap⟩:∃h0 z0,A=some ⟨h0,0,none⟩/\bs.length<=c:=by
  rcases h.2.1.2 with⟨hv,hz⟩|⟨g',z0,cur,hv,_,_,hnc,_⟩
  ·omega
  ·injection hv with e1 e2 e3
   exact⟨g',z0,e1,by omega⟩
 subst hA;refine⟨h0,rfl,?_⟩;clear h;have d1:decide ((k:Int)<0)=false:=decide_eq_false (by omega);have d2:decide (bs.length / 256<=k)=false:=decide_eq_false (by omega);have hk2:k*256+256<=bs.length:=by omega
 go_enter func205,ntmps205
 go_wp2_with fail
 refine hb.mono ?_;rintro e w1 ⟨rfl,rfl⟩;clear hb;go_wp2;rw[show(k+1)*256-k*256=256 by omega]
 go_ret2
 exact⟨rfl,rfl⟩
theorem block_bad{w:World}{B g:Nat}{A:Option Addr}{c:Nat}{bs:List UInt8}(h:Img w B g A c bs)(k:Int)(hk:k<0∨((bs.length / 256:Nat):Int)<=k):
  Calls prog 205 #[.pointer (some ⟨g,0,none⟩), .int .i64 k] w fun e w'=>e= .returned (.tuple #[.slice none 0 0, .int .i64 3])/\w=w':=by
 have hb:=XW h;clear h;by_cases h0:k<0
 ·have d1:decide (k<0)=true:=decide_eq_true h0;clear hk;go_enter func205,ntmps205
  go_wp2;go_ret2
  exact⟨rfl,rfl⟩
 ·have d1:decide (k<0)=false:=decide_eq_false h0;have hk':((bs.length / 256:Nat):Int)<=k:=by omega
  generalize bs.length / 256=m at*;have d2:decide ((m:Int)<=k)=true:=decide_eq_true hk';clear hk;go_enter func205,ntmps205
  go_wp2_with fail
  refine hb.mono ?_;rintro e w1 ⟨rfl,rfl⟩;clear hb;go_wp2;go_ret2
  exact⟨rfl,rfl⟩
theorem iread_ok{w:World}{B g:Nat}{A:Option Addr}{c:Nat}{bs:List UInt8}(h:Img w B g A c bs)(k:Nat)(hk:k<bs.length / 256):
  Calls prog 148 #[.pointer (some ⟨g,0,none⟩), .int .i64 k] w (GivesX 5 (bv ((bs.drop (k*256)).take 256)) 0 w):=by
 obtain⟨h0,rfl,hb⟩:=block_ok h k hk;have z0:((bs.drop (k*256)).take 256).length=256:=by rw[Ni,Nq];omega
 have hr:=Oe (some ⟨h0,k*256,none⟩) 256 ((bs.drop (k*256)).take 256) w _ (Na _) (by rw[z0];simp[reachBytes]) (by
  obtain⟨g',hA,hc⟩:=Z9 h.2.1 (by omega)
  injection hA with hA
  injection hA with hA _ _
  subst hA;refine fun hn=>⟨_,rfl,h.2.1.lt h0 rfl|>.2,fun j u hu=>?_⟩
  rw[Zo];refine hc _ u ?_;rw[bv,List.map_take,List.map_drop] at hu;rw[Ls] at hu
  split at hu
  ·rw[List.getElem?_drop] at hu;exact hu
  ·cases hu)
 rw[z0] at hr;clear h;generalize (bs.drop (k*256)).take 256=x at*;have HL:=DY z0;clear z0;go_enter func148,ntmps148
 go_wp2_with fail
 refine hb.mono ?_;rintro e w1 ⟨rfl,rfl⟩;clear hb;go_wp2_with fail
 refine hr.mono ?_;rintro e w1 ⟨A2,c2,rfl,z1,hb⟩;clear hr;go_wp2;go_ret2
 exact⟨A2,c2,rfl,z1,hb⟩
theorem clone_nil(w:World):Calls prog 25 #[.slice none 0 0] w fun e w'=>e= .returned (.slice none 0 0)/\w=w':=by
 have he:=fun w=>Lib.run_eql_slice_nil (P:=prog) w 22
 go_enter func25,ntmps25
 go_wp2_with fail
 go_ret;exact⟨rfl,rfl⟩
theorem iread_bad{w:World}{B g:Nat}{A:Option Addr}{c:Nat}{bs:List UInt8}(h:Img w B g A c bs)(k:Int)(hk:k<0∨((bs.length / 256:Nat):Int)<=k):
  Calls prog 148 #[.pointer (some ⟨g,0,none⟩), .int .i64 k] w fun e w'=>e= .returned (.tuple #[.slice none 0 0, .int .i64 3])/\w=w':=by
 have hb:=block_bad h k hk;clear h hk;go_enter func148,ntmps148
 go_wp2_with fail
 refine hb.mono ?_;rintro e w1 ⟨rfl,rfl⟩;clear hb;go_wp2_with fail
 refine(clone_nil _).mono ?_;rintro e w1 ⟨rfl,rfl⟩;go_wp2;go_ret2
 exact⟨rfl,rfl⟩
def QR(bs:List UInt8)(k:Nat)(b:List UInt8):List UInt8:=bs.take (k*256)++(b++bs.drop (k*256+256))
theorem U4(bs:List UInt8)(k:Nat)(b:List UInt8)(hk:k<bs.length / 256)(hb:b.length=256):(QR bs k b).length=bs.length:=by
 simp only[QR,D7,Ni,Nq,hb];omega
theorem iwrite_ok{w:World}{B g:Nat}{A:Option Addr}{c:Nat}{bs:List UInt8}(h:Img w B g A c bs)(k:Nat)(hk:k<bs.length / 256){B2:Nat}(A2:Option Addr)(c2:Nat)(b:List UInt8)(hb:b.length=256)(hr:Qh w B2 A2 (bv b)):
  Calls prog 184 #[.pointer (some ⟨g,0,none⟩), .int .i64 k, .slice A2 256 c2] w fun e w'=>e= .returned (.int .i64 0)/\Img w' B g A c (QR bs k b)/\w.grownBy w' (Value.slice A bs.length c).ownBlock:=by
 obtain⟨h0,rfl,z1⟩:=block_ok h k hk;have z2:=U4 bs k b hk hb;have hbase:=own_base h.2.1;have z6:=h.1.not_row (by decide) h.2.1;have HI:=DY h;have z3:=h.2.1;have hL:=h.2.2.1;have hx:(bv bs).take (k*256)++(bv b++(bv bs).drop (k*256+256))=bv (QR bs k b):=by
  rw[Xi,Xj];simp only[QR,Ze]
 have HX:=DY hx;have HL:=DY z2;have HB:=DY hb;have z4:(bv b).length=256:=by rw[Qm];exact hb
 have z8:=DY z4;have z7:(prog.info? 5).map (·.size)=some 1:=by kernel_rfl
 clear hx h z2 hb z4;go_enter func184,ntmps184
 go_wp2_with fail
 refine z1.mono ?_;rintro e w1 ⟨rfl,rfl⟩;clear z1;go_wp2_with (with_reducible refine KY rfl (.tmp 21) (.tmp 22) 22 22 rfl 5 underlying22 z7 B h0 bs.length c (bv bs) z3 (k*256) 256 (by omega) (by omega) 256 rfl B2 A2 c2 (bv b) rfl z8.out hr (Yz b) ?_;intro w2 z0 z5 hs2)
 rw[HX.out] at z0;go_ret;exact⟨rfl,⟨by rw[HL.out];exact HI.out.1.kept z5 z6,by rw[HL.out];exact z0,by rw[HL.out];exact hL,HI.out.2.2.2⟩,z5⟩
def V9(l:List UInt8):List UInt8:=l.take (min (l.length / 256) 14400*256)
theorem iof_any(A:Option Addr)(c:Nat)(l:List UInt8)(w:World)(hq:l.length<=c)(hm:l.length<=reachBytes)(h:Qh w w.heap.size A (bv l)):
  Calls prog 7 #[.slice A l.length c] w (GivesImg w (V9 l)):=by
 have z0:(V9 l).length=min (l.length / 256) 14400*256:=by unfold V9;rw[Ni];omega
 have hr:=fun c'=>Oe A c' (V9 l) w _ (Na _) (by unfold V9;rw[Ni];simp only[reachBytes] at*;omega) (by unfold V9;rw[<-Xi];exact h.take _)
 have z3:(V9 l).length<=3686400:=by omega
 have hb:∀m,m=min (l.length / 256) 14400->m*256<=l.length:=fun m hm=>by omega
 simp only[reachBytes] at hm;generalize V9 l=x at*;clear h;rcases NC 14400 (l.length / 256) with z2|z2
 ·rw[Nat.min_eq_right (Lk z2)] at z0 hb;have d2:decide ((14400:Int)<(l.length:Int)/ 256)=true:=decide_eq_true (by omega);have z0:x.length=3686400:=z0;have hb2:3686400<=l.length:=hb _ rfl;clear hb;rw[z0] at hr;have HX:=DY z0;clear z0;go_enter func7,ntmps7
  go_wp2_with fail
  go_wp2_with fail
  refine(hr c).mono ?_;rintro e w2 ⟨A2,c2,rfl,z1,hB⟩;rw[Qm,HX.out] at z1;rw[Qm,HX.out];clear hr;go_wp2;go_ret;exact⟨w2.heap.size,A2,c2,rfl,⟨by rw[HX.out];exact Boxed.new _ _ _,by rw[HX.out];exact z1.alloc _,z3,hB.size⟩,hB.alloc hB.size _⟩
 ·rw[LV z2] at z0 hb;have d2:decide ((14400:Int)<((l.length / 256:Nat):Int))=false:=decide_eq_false (by omega);rw[z0] at hr;have HX:=DY z0;clear z0;go_enter func7,ntmps7
  go_wp2_with fail
  refine(hr c).mono ?_;rintro e w2 ⟨A2,c2,rfl,z1,hB⟩;rw[Qm,HX.out] at z1;rw[Qm,HX.out];clear hr;go_wp2;go_ret;exact⟨w2.heap.size,A2,c2,rfl,⟨by rw[HX.out];exact Boxed.new _ _ _,by rw[HX.out];exact z1.alloc _,z3,hB.size⟩,hB.alloc hB.size _⟩
def Y0(n:Nat)(k:Int):Int:=if k<0∨((n / 256:Nat):Int)<=k then 3 else 0
def Y1(bs:List UInt8)(k:Int):List UInt8:=if Y0 bs.length k=0 then(bs.drop (k.toNat*256)).take 256 else []
theorem Ux{n:Nat}{k:Int}:Y0 n k=0↔0<=k/\k<(n / 256:Nat):=by
 unfold Y0
 split
 ·constructor
  ·intro h;cases h
  ·omega
 ·constructor<;>omega
theorem Uw{w:World}{B g:Nat}{A:Option Addr}{c:Nat}{bs:List UInt8}(h:Img w B g A c bs)(k:Int):
  Calls prog 148 #[.pointer (some ⟨g,0,none⟩), .int .i64 k] w (GivesX 5 (bv (Y1 bs k)) (Y0 bs.length k) w):=by
 by_cases h1:k<0∨((bs.length / 256:Nat):Int)<=k
 ·have hE:Y0 bs.length k=3:=by unfold Y0;rw[if_pos h1]
  have hB:Y1 bs k=[]:=by unfold Y1;rw[hE,if_neg (by decide)]
  rw[hE,hB];refine(iread_bad h k h1).mono ?_;rintro e w' ⟨rfl,rfl⟩;exact⟨none,0,rfl,Nb _ _ _ _,D6 _ _⟩
 ·obtain⟨m,rfl⟩:=NB (show 0<=k by omega);have hE:Y0 bs.length (m:Int)=0:=Ux.2 ⟨by omega,by omega⟩
  have hB:Y1 bs (m:Int)=(bs.drop (m*256)).take 256:=by unfold Y1;rw[if_pos hE];rfl
  rw[hE,hB];exact iread_ok h m (by omega)
end Go.Proofs.YtijcgllddnpmhaaGreatDoor
