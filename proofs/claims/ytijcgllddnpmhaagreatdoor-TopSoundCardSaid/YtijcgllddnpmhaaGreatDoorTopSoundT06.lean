/- TopSound: lemmas, part 6. -/
import Derived.Test.YtijcgllddnpmhaaGreatDoorTopSoundT03
import Derived.Test.YtijcgllddnpmhaaGreatDoorTopSoundT04
import Derived.Laws.EntriesVeiled
set_option maxRecDepth 100000
set_option maxHeartbeats 16000000
set_option linter.all false
namespace Go.Proofs.YtijcgllddnpmhaaGreatDoor
open Go.RowKit Go.Proofs.Tryz
section
attribute [local go_sem ↓] Go.wp_at_zero Go.wp_at_succ
theorem VW(A:Option Addr)(c:Nat)(A2:Option Addr)(c2:Nat)(z:List (XX×Int))(w:World)(hm:z.length<=100)(hg:∀q∈z,Ja q.1)(hw:∀q∈z,(Lit.int .i64 q.2).wf=true)
  (h:ZI w w.heap.size A (z.map (·.1))) (h2:Qh w w.heap.size A2 (iv (z.map (·.2)))):
  Calls prog 103 #[.slice A z.length c, .slice A2 z.length c2] w fun e w'=>e= .returned (.string ⟨(XF z).toArray⟩)/\Below w.heap.size w w':=by
 have HG:=DY hg;have HW:=DY hw;clear hg hw;obtain⟨i0,hi,zs,zq,zr⟩:=info_parts Tryz.infoU8;go_enter func103,ntmps103
 go_wp2_with fail
 go_loopw [5,12] (fun v i wr=>∃(k m:Nat),k<=z.length/\i= .int .i64 k/\JG (z.take k)=true/\m=(VY (z.take k)).length/\wr.ownsRow w.heap.size 5 1 v m (bv (VY (z.take k)))/\Below w.heap.size w wr) (fun _ i _=>z.length-(intOf i).toNat)
 case atStart=>exact⟨0,0,by omega,rfl,rfl,rfl,Nb _ _ _ _,D6 _ _⟩
 case round=>
  obtain⟨k,m,hk,rfl,he,z4,z0,z1⟩:=hrel;by_cases hlt:k<z.length
  ·obtain⟨b,o,rfl,hbb,hc⟩:=h.below z1 (by rw[NN];omega);obtain⟨ad,rfl,had,z6⟩:=(h2.below z1).num (k:=k) (by rw[NN];exact hlt);obtain⟨z9,DU,DV⟩:=hc k _ (D1 (by rw[NN];exact hlt));rw[List.getElem_map] at z9 DU DV z6;have z8:=HG.out z[k] (Nm hlt);have ze:=HW.out z[k] (Nm hlt);have zf:=Xn z k hlt;have hE:JG (z.take (k+1))=inB z[k].1 z[k].2:=by rw[zf,valE_append,he];simp[JG]
   have hF:inB z[k].1 z[k].2=false->JG z=false:=fun hf=>by
    unfold JG;rw[LM];exact⟨z[k],Nm hlt,by simp[hf]⟩
   have hB':VY (z.take (k+1))=VY (z.take k)++leb z[k].1.1.toNat z[k].2.toNat:=by rw[zf,valB_append];simp[VY]
   have zh:=valB_len (z.take k) (fun q hq=>HG.out q (Ln hq));rw[Ni,<-z4] at zh;have zp:=DY z4;have HE:=DY hE;have HF:=DY hF;have HB:=DY hB';clear hc zf hE hF hB' z4 he;generalize z[k]=q at*;obtain⟨⟨pw,lo,hi'⟩,n⟩:=q;simp only at z9 DU DV z6 z8 ze HE HF HB;have zj:b<wr.heap.size:=by have:=z1.size;omega
   have gn:∀O,(wr.alloc O).cell? (ad.add k)=some (.int .i64 n):=fun O=>by rw[Lm _ _ _ (by rw[YA];have:=z1.size;omega)];exact z6
   have hO:=fun O=>z0.alloc O
   have z5:=fun O=>z1.alloc z1.size O
   have zd:∀O,wr.heap.size<(wr.alloc O).heap.size:=fun O=>by simp
   have hfb:=z1.size;by_cases hin:inB (pw,lo,hi') n=true
   ·have z7:=z8.2 n hin;have zi:=z8.1;have hx:=(Zy pw).1 zi;have zc:lo<=n/\n<=hi':=by simpa[inB] using hin
    obtain⟨zk,hhi⟩:=zc;have d1:decide (n<lo)=false:=decide_eq_false (by omega);have d2:decide (hi'<n)=false:=decide_eq_false (by omega);have p1:Zu [(pw,n)]=0:=by simp only[Zu];rw[if_pos zi,if_pos z7]
    have p2:YH [(pw,n)]=leb pw.toNat n.toNat:=by unfold YH;rw[if_pos p1];simp[ZC]
    obtain⟨x,rfl⟩:=NB (show 0<=pw by omega);have hx8:x<=8:=by omega
    have zo:∀W:World,Calls prog 164 #[.slice (some ⟨W.heap.size,0,none⟩) 1 1] (W.alloc (.cells #[.int .i64 x, .int .i64 n] 289)) (Xl 5 (bv (leb x n.toNat)) 0 (W.alloc (.cells #[.int .i64 x, .int .i64 n] 289))):=fun W=>by
     have:=J0 (some ⟨W.heap.size,0,none⟩) 1 [((x:Int),n)] (W.alloc (.cells #[.int .i64 x, .int .i64 n] 289)) (by simp[reachBytes]) (fun p hp=>by simp at hp;subst hp;exact ze) (fun _=>⟨_,0,rfl,by simp,fun j p hj=>by
      have zn:=(NG.1 hj).1;simp at zn;subst zn;simp at hj;subst hj;rw[Nk,Nk];exact⟨rfl,rfl⟩⟩)
     rw[p1,p2,N3] at this;exact this
    rw[hin] at HE;rw[N3] at HB;generalize n.toNat=n' at*;have HIN:=DY hin;clear hin z7 zi hx p1 p2 HF z8 ze;go_wp2_with fail
    have g0:(wr.alloc (.cells #[.int .i64 (x:Int), .int .i64 lo, .int .i64 hi'] 286)).cell? ⟨wr.heap.size,0,none⟩=some (.int .i64 x):=by rw[Nk];rfl
    have g1:(wr.alloc (.cells #[.int .i64 (x:Int), .int .i64 lo, .int .i64 hi'] 286)).cell? ⟨wr.heap.size,1,none⟩=some (.int .i64 lo):=by rw[Nk];rfl
    have g2:(wr.alloc (.cells #[.int .i64 (x:Int), .int .i64 lo, .int .i64 hi'] 286)).cell? ⟨wr.heap.size,2,none⟩=some (.int .i64 hi'):=by rw[Nk];rfl
    have gn':=gn (.cells #[.int .i64 (x:Int), .int .i64 lo, .int .i64 hi'] 286);have hO':=hO (.cells #[.int .i64 (x:Int), .int .i64 lo, .int .i64 hi'] 286);have hBO':=z5 (.cells #[.int .i64 (x:Int), .int .i64 lo, .int .i64 hi'] 286);have hfs':=zd (.cells #[.int .i64 (x:Int), .int .i64 lo, .int .i64 hi'] 286);clear gn hO z5 zd z9 DU DV z6 z0 z1 zj;generalize wr.alloc (.cells #[.int .i64 (x:Int), .int .i64 lo, .int .i64 hi'] 286)=W1 at*;generalize wr.heap.size=f at*;go_quiet (fail)
    go_wp2_with fail
    go_region_held3 (fun w'=>w'.cell? ⟨f,0,none⟩=some (.int .i64 x)/\w'.cell? (ad.add k)=some (.int .i64 n)) (first|go_keep|exact And.imp (Qg zb) (Qg zb) (by assumption)) ((go_at_call 164;refine(zo _).mono ?_;rintro e w2 ⟨A3,c3,rfl,z2,zb⟩;rw[Qm,QM] at z2 ⊢))
    have zm:Below W1.heap.size W1 (W1.drewN (nq+1)):=⟨rfl,rfl,rfl,Na _,fun _ _=>rfl⟩
    have zg:Below W1.heap.size W1 w2:=zm.trans ((Qb (Qd _ _) zb).mono (Na _));have hK:=QT hO' zg;have zl:=hBO'.trans (zg.mono hBO'.size);have R3:=Qh.of_own z2;clear zb z2 zm zg hO' hBO' gn' g0 g1 g2 zo;go_wp2_with (at_builtin;refine QE _ rfl (.tmp 45) (.tmp 46) _ rfl w.heap.size 5 i0 _ 1 underlying22 hi zs zq zr rfl _ m (bv (VY (z.take k))) rfl hK _ A3 x c3 (bv (leb x n')) rfl (by rw[Qm,QM]) R3 (Yz _) (by simp only[maxLen];omega) (by omega) zl.size ?_;intro A4 c4 w4 za hg4 zt _)
    go_roundw
    case rel=>exact⟨k+1,m+x,by omega,by go_num,HE.out,by rw[HB.out,D7,QM,<-zp.out],by rw[HB.out,Ze];exact za,zl.trans zt⟩
    case measure=>simp[intOf];omega
   ·have z3:inB (pw,lo,hi') n=false:=by simpa using hin
    have hV:XF z=[]:=by unfold XF;rw[HF.out z3];rfl
    have HV:=Lib.hid hV;have zc:n<lo∨hi'<n:=by
     simp only[inB,decide_eq_false_iff_not] at z3;omega
    clear hV HE HF HB hin z3 z8 ze;by_cases zk:n<lo
    ·have d1:decide (n<lo)=true:=decide_eq_true zk;clear zc;go_wp2_with fail
     have g1:(wr.alloc (.cells #[.int .i64 pw, .int .i64 lo, .int .i64 hi'] 286)).cell? ⟨wr.heap.size,1,none⟩=some (.int .i64 lo):=by rw[Nk];rfl
     have gn':=gn (.cells #[.int .i64 pw, .int .i64 lo, .int .i64 hi'] 286);have hBO':=z5 (.cells #[.int .i64 pw, .int .i64 lo, .int .i64 hi'] 286);clear gn hO z5 zd z9 DU DV z6 z0 z1 zj;generalize wr.alloc (.cells #[.int .i64 pw, .int .i64 lo, .int .i64 hi'] 286)=W1 at*;generalize wr.heap.size=f at*;go_quiet (fail)
     go_wp2;go_ret;exact⟨by rw[HV.out];rfl,Qs hBO' _⟩
    ·have d1:decide (n<lo)=false:=decide_eq_false zk;have d2:decide (hi'<n)=true:=decide_eq_true (by omega);have l1:lo<=n:=by omega
     have l2:hi'<n:=by omega
     clear zc;go_wp2_with fail
     have g1:(wr.alloc (.cells #[.int .i64 pw, .int .i64 lo, .int .i64 hi'] 286)).cell? ⟨wr.heap.size,1,none⟩=some (.int .i64 lo):=by rw[Nk];rfl
     have g2:(wr.alloc (.cells #[.int .i64 pw, .int .i64 lo, .int .i64 hi'] 286)).cell? ⟨wr.heap.size,2,none⟩=some (.int .i64 hi'):=by rw[Nk];rfl
     have gn':=gn (.cells #[.int .i64 pw, .int .i64 lo, .int .i64 hi'] 286);have hBO':=z5 (.cells #[.int .i64 pw, .int .i64 lo, .int .i64 hi'] 286);clear gn hO z5 zd z9 DU DV z6 z0 z1 zj;generalize wr.alloc (.cells #[.int .i64 pw, .int .i64 lo, .int .i64 hi'] 286)=W1 at*;generalize wr.heap.size=f at*;go_quiet (fail)
     go_wp2;go_ret;exact⟨by rw[HV.out];rfl,Qs hBO' _⟩
  ·obtain rfl:k=z.length:=by omega
   rw[Nw] at he z4 z0;have hV:XF z=VY z:=by unfold XF;rw[he,if_pos rfl]
   have HV:=DY hV;obtain⟨A1,c1,rfl⟩:=QN z0;have hcv:=Vb (P:=prog) wr 22 9 5 underlying22 underlying5 underlying9 m c1 z4 (Qh.of_own z0);clear he z4 hV z0;go_wp2;go_ret;exact⟨by rw[HV.out];rfl,z1⟩
end
section
attribute [local go_sem ↓] Go.wp_at_zero Go.wp_at_succ
def XU:XX:=(8,0,1099511627775)
def QU:List XX:=[(8,0,16384),(8,0,2147483647),(4,0,16777215),(4,0,16777215)]
def Q5:List XX:=[(8,1,14399),(4,0,960),(4,0,960)]
def QB:XX:=(4,1,14399)
def countP:XX:=(4,3,2147483647)
theorem Kv(lo hi:Int)(h0:0<=lo)(h:hi<4294967296):Ja (4,lo,hi):=⟨rfl,fun n hn=>by
 simp only[inB,decide_eq_true_eq] at hn;simp only[XD,decide_eq_true_eq];omega⟩
theorem good8(lo hi:Int)(h0:0<=lo):Ja (8,lo,hi):=⟨rfl,fun n hn=>by
 simp only[inB,decide_eq_true_eq] at hn;simp only[XD,decide_eq_true_eq];omega⟩
def Vn(ps:List XX)(w:World)(e:Ending)(w':World):Prop:=∃A,e= .returned (.slice A ps.length ps.length)/\ZI w' w'.heap.size A ps/\Below w.heap.size w w'
theorem Kt(w:World):Calls prog 104 #[] w (Vn [XU] w):=by
 have hr:=ZI.new w [XU] 286 (0,0);go_enter func104,ntmps104
 go_wp2;go_ret;exact⟨_,rfl,hr.more (by simp),Qd w _⟩
theorem Kw(w:World):Calls prog 156 #[] w (Vn QU w):=by
 have hr:=ZI.new w QU 286 (0,0);go_enter func156,ntmps156
 go_wp2;go_ret;exact⟨_,rfl,hr.more (by simp),Qd w _⟩
theorem slot_any(w:World):Calls prog 125 #[] w (Vn Q5 w):=by
 have hr:=ZI.new w Q5 286 (0,0);go_enter func125,ntmps125
 go_wp2;go_ret;exact⟨_,rfl,hr.more (by simp),Qd w _⟩
theorem root_any(w:World):Calls prog 154 #[] w (Vn [QB] w):=by
 have hr:=ZI.new w [QB] 286 (0,0);go_enter func154,ntmps154
 go_wp2;go_ret;exact⟨_,rfl,hr.more (by simp),Qd w _⟩
theorem ES(w:World):Calls prog 242 #[] w (Vn [countP] w):=by
 have hr:=ZI.new w [countP] 286 (0,0);go_enter func242,ntmps242
 go_wp2;go_ret;exact⟨_,rfl,hr.more (by simp),Qd w _⟩
theorem Uo(n:Int)(w:World)(hn:(Lit.int .i64 n).wf=true):Calls prog 169 #[.int .i64 n] w fun e w'=>e= .returned (.string ⟨(XF [(QB,n)]).toArray⟩)/\Below w.heap.size w w':=by
 have hp:=fun(A A2:Option Addr) (W:World) h h2=>VW A 1 A2 1 [(QB,n)] W (by simp) (by simp[QB];exact Kv _ _ (by omega) (by omega)) (by simpa using hn) h h2
 go_enter func169,ntmps169
 go_wp2_with fail
 refine(root_any _).mono ?_;rintro e w1 ⟨A,rfl,hr,z1⟩;have hB:=Qb z1 (Qd w1 (.cells #[.int .i64 n] 3));have z0:=Qh.new w1 (iv [n]) 3 (0,0);go_wp2_with fail
 refine(hp _ _ _ ((hr.below (Qd _ _)).more (by simp)) (z0.more (by simp))).mono ?_;rintro e w2 ⟨rfl,hb⟩;have z2:=hB.trans (hb.mono hB.size);clear hp hr z0 hb z1;go_wp2;go_ret;exact⟨rfl,z2⟩
theorem vcount_any(n:Int)(w:World)(hn:(Lit.int .i64 n).wf=true):Calls prog 224 #[.int .i64 n] w fun e w'=>e= .returned (.string ⟨(XF [(countP,n)]).toArray⟩)/\Below w.heap.size w w':=by
 have hp:=fun(A A2:Option Addr) (W:World) h h2=>VW A 1 A2 1 [(countP,n)] W (by simp) (by simp[countP];exact Kv _ _ (by omega) (by omega)) (by simpa using hn) h h2
 go_enter func224,ntmps224
 go_wp2_with fail
 refine(ES _).mono ?_;rintro e w1 ⟨A,rfl,hr,z1⟩;have hB:=Qb z1 (Qd w1 (.cells #[.int .i64 n] 3));have z0:=Qh.new w1 (iv [n]) 3 (0,0);go_wp2_with fail
 refine(hp _ _ _ ((hr.below (Qd _ _)).more (by simp)) (z0.more (by simp))).mono ?_;rintro e w2 ⟨rfl,hb⟩;have z2:=hB.trans (hb.mono hB.size);clear hp hr z0 hb z1;go_wp2;go_ret;exact⟨rfl,z2⟩
def GQ(a b c d:Int):List (XX×Int):=[((8,0,16384),a),((8,0,2147483647),b),((4,0,16777215),c),((4,0,16777215),d)]
def YV(a b c:Int):List (XX×Int):=[((8,1,14399),a),((4,0,960),b),((4,0,960),c)]
theorem RG(a b c:Int):∀q∈YV a b c,Ja q.1:=by
 intro q hq;simp only[YV,Nt,LC,or_false] at hq;rcases hq with rfl|rfl|rfl
 ·exact good8 _ _ (by omega)
 ·exact Kv _ _ (by omega) (by omega)
 ·exact Kv _ _ (by omega) (by omega)
theorem EP(a b c d:Int):∀q∈GQ a b c d,Ja q.1:=by
 intro q hq;simp only[GQ,Nt,LC,or_false] at hq;rcases hq with rfl|rfl|rfl|rfl
 ·exact good8 _ _ (by omega)
 ·exact good8 _ _ (by omega)
 ·exact Kv _ _ (by omega) (by omega)
 ·exact Kv _ _ (by omega) (by omega)
theorem G3(a b c:Int)(w:World)(ha:(Lit.int .i64 a).wf=true)(hb:(Lit.int .i64 b).wf=true)(hc:(Lit.int .i64 c).wf=true):
  Calls prog 175 #[.agg #[.int .i64 a, .int .i64 b, .int .i64 c]] w fun e w'=>e= .returned (.string ⟨(XF (YV a b c)).toArray⟩)/\Below w.heap.size w w':=by
 have hp:=fun(A A2:Option Addr) (W:World) h h2=>VW A 3 A2 3 (YV a b c) W (by simp[YV]) (RG a b c) (by
  intro q hq;simp only[YV,Nt,LC,or_false] at hq;rcases hq with rfl|rfl|rfl<;>assumption) h h2
 have hs:=slot_any;generalize XF (YV a b c)=res at*;go_enter func175,ntmps175
 go_wp2_with fail
 have hB:=Qd w (.cells #[.int .i64 a, .int .i64 b, .int .i64 c] 148);have z4:w.heap.size<(w.alloc (.cells #[.int .i64 a, .int .i64 b, .int .i64 c] 148)).heap.size:=by simp
 have g0:(w.alloc (.cells #[.int .i64 a, .int .i64 b, .int .i64 c] 148)).cell? ⟨w.heap.size,0,none⟩=some (.int .i64 a):=by rw[Nk];rfl
 have g1:(w.alloc (.cells #[.int .i64 a, .int .i64 b, .int .i64 c] 148)).cell? ⟨w.heap.size,1,none⟩=some (.int .i64 b):=by rw[Nk];rfl
 have g2:(w.alloc (.cells #[.int .i64 a, .int .i64 b, .int .i64 c] 148)).cell? ⟨w.heap.size,2,none⟩=some (.int .i64 c):=by rw[Nk];rfl
 generalize w.alloc (.cells #[.int .i64 a, .int .i64 b, .int .i64 c] 148)=W1 at*;generalize hf:w.heap.size=f at*;have HF:=DY hf;clear hf;go_region_held3 (fun w'=>w'.cell? ⟨f,0,none⟩=some (.int .i64 a)/\w'.cell? ⟨f,1,none⟩=some (.int .i64 b)/\w'.cell? ⟨f,2,none⟩=some (.int .i64 c)) (first|go_keep|exact(And.imp (Qg z0) (And.imp (Qg z0) (Qg z0))) (by assumption)|exact(And.imp (Qg z1) (And.imp (Qg z1) (Qg z1))) (by assumption)) (first|(go_at_call 125;refine(hs _).mono ?_;rintro e w2 ⟨A,rfl,hr,z0⟩)|(go_at_call 103;refine(hp _ _ _ (by first|exact hr|exact(hr.below (Qd _ _)).more (by simp)) (by first|exact(Qh.new w2 (iv [a,b,c]) 3 (0,0)).more (by simp)|exact(((Qh.new W1 (iv [a,b,c]) 3 (0,0)).drew).below (z0.mono (by simp))).more (by have:=z0.size;simp at this ⊢;omega))).mono ?_;rintro e w3 ⟨rfl,z1⟩))
 all_goals
  have z2:Below W1.heap.size W1 w2:=by first|exact((D6 _ W1).drew).trans z0|exact Qb (Qd W1 (.cells #[.int .i64 a, .int .i64 b, .int .i64 c] 3)) (((D6 _ _).drew).trans z0)
  have z3:Below W1.heap.size W1 w3:=by first|exact Qb z2 z1|exact Qb (z2.trans ((Qd w2 _).mono z2.size)) z1
  have z5:Below f w w3:=hB.trans (z3.mono (Lk z4));clear z1 z0 hp hs hr z2 z3;go_wp2;go_ret;exact⟨rfl,by rw[HF.out];exact z5⟩
end
def askA(a b c:Nat):Array Value:=#[.func (.func 207) #[] #[.pointer (some ⟨b,0,none⟩), .pointer (some ⟨c,0,none⟩)], .int .i64 1, .func (.func 209) #[] #[.pointer (some ⟨a,0,none⟩)], .int .i64 7,
 .func (.func 210) #[] #[.pointer (some ⟨a,0,none⟩), .pointer (some ⟨b,0,none⟩)], .int .i64 4, .func (.func 213) #[] #[.pointer (some ⟨a,0,none⟩), .pointer (some ⟨c,0,none⟩)], .int .i64 5,
 .func (.func 214) #[] #[.pointer (some ⟨a,0,none⟩), .pointer (some ⟨b,0,none⟩)], .int .i64 6, .func (.func 215) #[] #[.pointer (some ⟨a,0,none⟩)], .int .i64 7]
structure OInv(A:Option Addr)(c:Nat)(l:List UInt8)(k n:Int)(w W:World):Prop where
 s0:W.heap[w.heap.size]?=some (.cells #[.slice A l.length c] 22)
 s1:W.heap[w.heap.size+1]?=some (.cells #[.int .i64 k] 3)
 s2:W.heap[w.heap.size+1+1]?=some (.cells #[.int .i64 n] 3)
 s3:W.heap[w.heap.size+1+1+1]?=some (.cells (askA w.heap.size (w.heap.size+1) (w.heap.size+1+1)) 354)
 rd:Qh W w.heap.size A (bv l)
 bl:Below w.heap.size w W
theorem OInv.step{A:Option Addr}{c:Nat}{l:List UInt8}{k n:Int}{w W W':World}(h:OInv A c l k n w W)(hb:Below W.heap.size W W'):OInv A c l k n w W':=
 ⟨Qe h.s0 hb,Qe h.s1 hb,Qe h.s2 hb,Qe h.s3 hb,h.rd.below (hb.mono h.bl.size),Qb h.bl hb⟩
def okO(l:List UInt8)(k n:Int)(j:Nat):Prop:=(0<j->XV k n=true)/\(1<j->l.length=256)/\(2<j->Kn l k=true)/\(3<j->(Xd l 0 4:Int)=n)/\(4<j->(Xd l 4 2:Int)=k)/\(5<j->Xd l 6 2=0)
theorem openE_at{l:List UInt8}{k n:Int}:
  (okO l k n 0->XV k n=false->ZA l k n=1)/\(okO l k n 1->l.length≠256->ZA l k n=7)/\(okO l k n 2->Kn l k=false->ZA l k n=4)/\
  (okO l k n 3->(Xd l 0 4:Int)≠n->ZA l k n=5)/\(okO l k n 4->(Xd l 4 2:Int)≠k->ZA l k n=6)/\(okO l k n 5->Xd l 6 2≠0->ZA l k n=7)/\(okO l k n 6->ZA l k n=0):=by
 unfold okO ZA;refine⟨?_,?_,?_,?_,?_,?_,?_⟩
 ·rintro _ h;rw[if_pos h]
 ·rintro⟨a,_⟩ h;rw[a (by decide),if_neg (by decide),if_pos h]
 ·rintro⟨a,b,_⟩ h;rw[a (by decide),if_neg (by decide),if_neg (by simpa using b (by decide)),if_pos h]
 ·rintro⟨a,b,c,_⟩ h;rw[a (by decide),if_neg (by decide),if_neg (by simpa using b (by decide)),c (by decide),if_neg (by decide),if_pos h]
 ·rintro⟨a,b,c,d,_⟩ h;rw[a (by decide),if_neg (by decide),if_neg (by simpa using b (by decide)),c (by decide),if_neg (by decide),if_neg (by simpa using d (by decide)),if_pos h]
 ·rintro⟨a,b,c,d,e,_⟩ h;rw[a (by decide),if_neg (by decide),if_neg (by simpa using b (by decide)),c (by decide),if_neg (by decide),if_neg (by simpa using d (by decide)),if_neg (by simpa using e (by decide)),if_pos h]
 ·rintro⟨a,b,c,d,e,f⟩;rw[a (by decide),if_neg (by decide),if_neg (by simpa using b (by decide)),c (by decide),if_neg (by decide),if_neg (by simpa using d (by decide)),if_neg (by simpa using e (by decide)),if_neg (by simpa using f (by decide))]
theorem openV_no{l:List UInt8}{k n e:Int}(h:ZA l k n=e)(h0:e≠0):XM l k n=[]:=by
 unfold XM;rw[h,if_neg h0]
theorem OF(A:Option Addr)(c:Nat)(l:List UInt8)(k n:Int)(w:World)(hq:l.length<=c)(h:Qh w w.heap.size A (bv l)):
  Calls prog 150 #[.slice A l.length c, .int .i64 k, .int .i64 n] w (Xl 5 (bv (XM l k n)) (ZA l k n) w):=by
 have h0:OInv A c l k n w ((((w.alloc (.cells #[.slice A l.length c] 22)).alloc (.cells #[.int .i64 k] 3)).alloc (.cells #[.int .i64 n] 3)).alloc (.cells (askA w.heap.size (w.heap.size+1) (w.heap.size+1+1)) 354)):=by
  have e1:(w.alloc (.cells #[.slice A l.length c] 22)).heap.size=w.heap.size+1:=by simp
  have e2:((w.alloc (.cells #[.slice A l.length c] 22)).alloc (.cells #[.int .i64 k] 3)).heap.size=w.heap.size+1+1:=by simp
  have e3:(((w.alloc (.cells #[.slice A l.length c] 22)).alloc (.cells #[.int .i64 k] 3)).alloc (.cells #[.int .i64 n] 3)).heap.size=w.heap.size+1+1+1:=by simp
  have a0:=heap_alloc_new w (.cells #[.slice A l.length c] 22);have a1:=heap_alloc_new (w.alloc (.cells #[.slice A l.length c] 22)) (.cells #[.int .i64 k] 3);have a2:=heap_alloc_new ((w.alloc (.cells #[.slice A l.length c] 22)).alloc (.cells #[.int .i64 k] 3)) (.cells #[.int .i64 n] 3);have a3:=heap_alloc_new (((w.alloc (.cells #[.slice A l.length c] 22)).alloc (.cells #[.int .i64 k] 3)).alloc (.cells #[.int .i64 n] 3)) (.cells (askA w.heap.size (w.heap.size+1) (w.heap.size+1+1)) 354);rw[e1] at a1;rw[e2] at a2;rw[e3] at a3;have hB:=(QG w (.cells #[.slice A l.length c] 22) (.cells #[.int .i64 k] 3)).trans ((QG _ (.cells #[.int .i64 n] 3) (.cells (askA w.heap.size (w.heap.size+1) (w.heap.size+1+1)) 354)).mono (by simp;omega));exact⟨Qj (Qj (Qj a0 _) _) _,Qj (Qj a1 _) _,Qj a2 _,a3,h.below hB,hB⟩
 have HE:=DY (@openE_at l k n);have HN:=DY (fun e=> @openV_no l k n e);have HV:Hid (ZA l k n=0->XM l k n=(l.drop 8).take 244):=fun h=>by unfold XM;rw[if_pos h]
 go_enter func150,ntmps150
 go_wp2_with fail
 have zc:=DY h0;clear h h0;go_loopw [10,26] (fun _ i wr=>∃j:Nat,j<=6/\i= .int .i64 j/\OInv A c l k n w wr/\okO l k n j) (fun _ i _=>6-(intOf i).toNat)
 case atStart=>exact⟨0,by omega,rfl,zc.out,by unfold okO;omega⟩
 case round=>
  obtain⟨j,hj,rfl,hI,zd⟩:=hrel;have HI:=DY hI;have z1:=DY zd;clear zd zc;have z4:=hI.s3;have hj:j=0∨j=1∨j=2∨j=3∨j=4∨j=5∨j=6:=by omega
  rcases hj with rfl|rfl|rfl|rfl|rfl|rfl|rfl
  ·have e0:wr.cell? ⟨w.heap.size+1+1+1,0,none⟩=some (.func (.func 207) #[] #[.pointer (some ⟨w.heap.size+1,0,none⟩), .pointer (some ⟨w.heap.size+1+1,0,none⟩)]):=Qa z4 0 rfl;have e1:wr.cell? ⟨w.heap.size+1+1+1,1,none⟩=some (.int .i64 1):=Qa z4 1 rfl;have z0:=hI.step (Qd wr (.cells #[(.func (.func 207) #[] #[.pointer (some ⟨w.heap.size+1,0,none⟩), .pointer (some ⟨w.heap.size+1+1,0,none⟩)]), .int .i64 1] 354));have q:=open1_any _ _ k n _ (Qa z0.s1 0 rfl) (Qa z0.s2 0 rfl);obtain⟨b,hb⟩:∃b:Bool,(!XV k n)=b:=⟨_,rfl⟩;rw[hb] at q;have HB:=DY hb;have z6:=DY z0;clear hb hI z4 z0;go_wp2_with fail
   refine q.mono ?_;rintro e w2 ⟨rfl,rfl⟩;have z5:=z6;clear q;cases b with
   |false=>
    have z2:Hid (okO l k n 1):=⟨fun _=>by have:=HB.out;simpa using this,fun h=>by omega,fun h=>by omega,fun h=>by omega,fun h=>by omega,fun h=>by omega⟩
    go_wp2;go_roundw
    case rel=>exact⟨1,by omega,by go_num,z5.out,z2.out⟩
    case measure=>simp[intOf]
   |true=>
    have hE:Hid (ZA l k n=1):=HE.out.1 z1.out (by have:=HB.out;simpa using this);have hV:=Lib.hid (HN.out 1 hE.out (by decide));go_wp2_with fail
    go_region
    go_wp2;go_ret2
    refine⟨none,0,?_,?_,Qb z5.out.bl (below_drewN (D6 _ _) 1)⟩
    ·rw[hE.out,hV.out];rfl
    ·rw[hV.out];exact Nb _ _ _ _
  ·have e0:wr.cell? ⟨w.heap.size+1+1+1,2,none⟩=some (.func (.func 209) #[] #[.pointer (some ⟨w.heap.size,0,none⟩)]):=Qa z4 2 rfl;have e1:wr.cell? ⟨w.heap.size+1+1+1,3,none⟩=some (.int .i64 7):=Qa z4 3 rfl;have z0:=hI.step (Qd wr (.cells #[(.func (.func 209) #[] #[.pointer (some ⟨w.heap.size,0,none⟩)]), .int .i64 7] 354));have q:=open2_any _ A l.length c _ (Qa z0.s0 0 rfl);obtain⟨b,hb⟩:∃b:Bool,((l.length:Int) !=256)=b:=⟨_,rfl⟩;rw[hb] at q;have HB:=DY hb;have z6:=DY z0;clear hb hI z4 z0;go_wp2_with fail
   refine q.mono ?_;rintro e w2 ⟨rfl,rfl⟩;have z5:=z6;clear q;cases b with
   |false=>
    have z2:Hid (okO l k n 2):=⟨fun _=>z1.out.1 (by omega),fun _=>by have:=HB.out;simp at this;omega,fun h=>by omega,fun h=>by omega,fun h=>by omega,fun h=>by omega⟩
    go_wp2;go_roundw
    case rel=>exact⟨2,by omega,by go_num,z5.out,z2.out⟩
    case measure=>simp[intOf]
   |true=>
    have hE:Hid (ZA l k n=7):=HE.out.2.1 z1 (by have:=HB.out;simp at this;omega);have hV:=Lib.hid (HN.out 7 hE.out (by decide));go_wp2_with fail
    go_region
    go_wp2;go_ret2
    refine⟨none,0,?_,?_,Qb z5.out.bl (below_drewN (D6 _ _) 1)⟩
    ·rw[hE.out,hV.out];rfl
    ·rw[hV.out];exact Nb _ _ _ _
  ·have e0:wr.cell? ⟨w.heap.size+1+1+1,4,none⟩=some (.func (.func 210) #[] #[.pointer (some ⟨w.heap.size,0,none⟩), .pointer (some ⟨w.heap.size+1,0,none⟩)]):=Qa z4 4 rfl;have e1:wr.cell? ⟨w.heap.size+1+1+1,5,none⟩=some (.int .i64 4):=Qa z4 5 rfl;have z0:=hI.step (Qd wr (.cells #[(.func (.func 210) #[] #[.pointer (some ⟨w.heap.size,0,none⟩), .pointer (some ⟨w.heap.size+1,0,none⟩)]), .int .i64 4] 354));have hl:l.length=256:=z1.out.2.1 (by omega);have z3:=Qa z0.s0 0 rfl;have z3:_=some (Value.slice A 256 c):=z3.trans (by rw[<-hl];rfl);have q:=open3_any _ _ A c l k _ hl (by omega) z3 (Qa z0.s1 0 rfl) (z0.rd.more z0.bl.size);obtain⟨b,hb⟩:∃b:Bool,(!Kn l k)=b:=⟨_,rfl⟩;rw[hb] at q;have HB:=DY hb;have z6:=DY z0;clear hb hI z4 z0 z3 hl;go_wp2_with fail
   refine q.mono ?_;rintro e w2 ⟨rfl,z9⟩;have z5:=DY (z6.out.step z9);have t0:=Qe (heap_alloc_new wr (.cells #[(.func (.func 210) #[] #[.pointer (some ⟨w.heap.size,0,none⟩), .pointer (some ⟨w.heap.size+1,0,none⟩)]), .int .i64 4] 354)) z9;have t1:=Qa t0 1 rfl;clear t0 z9;clear q;cases b with
   |false=>
    have z2:Hid (okO l k n 3):=⟨fun _=>z1.out.1 (by omega),fun _=>z1.out.2.1 (by omega),fun _=>by have:=HB.out;simpa using this,fun h=>by omega,fun h=>by omega,fun h=>by omega⟩
    go_wp2;go_roundw
    case rel=>exact⟨3,by omega,by go_num,z5.out,z2.out⟩
    case measure=>simp[intOf]
   |true=>
    have hE:Hid (ZA l k n=4):=HE.out.2.2.1 z1.out (by have:=HB.out;simpa using this);have hV:=Lib.hid (HN.out 4 hE.out (by decide));go_wp2_with fail
    go_region
    go_wp2;go_ret2
    refine⟨none,0,?_,?_,Qb z5.out.bl (below_drewN (D6 _ _) 1)⟩
    ·rw[hE.out,hV.out];rfl
    ·rw[hV.out];exact Nb _ _ _ _
  ·have e0:wr.cell? ⟨w.heap.size+1+1+1,6,none⟩=some (.func (.func 213) #[] #[.pointer (some ⟨w.heap.size,0,none⟩), .pointer (some ⟨w.heap.size+1+1,0,none⟩)]):=Qa z4 6 rfl;have e1:wr.cell? ⟨w.heap.size+1+1+1,7,none⟩=some (.int .i64 5):=Qa z4 7 rfl;have z0:=hI.step (Qd wr (.cells #[(.func (.func 213) #[] #[.pointer (some ⟨w.heap.size,0,none⟩), .pointer (some ⟨w.heap.size+1+1,0,none⟩)]), .int .i64 5] 354));have hl:l.length=256:=z1.out.2.1 (by omega);have z3:=Qa z0.s0 0 rfl;have z3:_=some (Value.slice A 256 c):=z3.trans (by rw[<-hl];rfl);have q:=open4_any _ _ A c l n _ hl z3 (Qa z0.s2 0 rfl) (z0.rd.more z0.bl.size);obtain⟨b,hb⟩:∃b:Bool,(((Xd l 0 4:Nat):Int) !=n)=b:=⟨_,rfl⟩;rw[hb] at q;have HB:=DY hb;have z6:=DY z0;clear hb hI z4 z0 z3 hl;go_wp2_with fail
   refine q.mono ?_;rintro e w2 ⟨rfl,m,rfl⟩;have z5:=DY (z6.out.step (below_drewN (D6 _ _) m));clear q;cases b with
   |false=>
    have z2:Hid (okO l k n 4):=⟨fun _=>z1.out.1 (by omega),fun _=>z1.out.2.1 (by omega),fun _=>z1.out.2.2.1 (by omega),fun _=>by have:=HB.out;simpa using this,fun h=>by omega,fun h=>by omega⟩
    go_wp2;go_roundw
    case rel=>exact⟨4,by omega,by go_num,z5.out,z2.out⟩
    case measure=>simp[intOf]
   |true=>
    have hE:Hid (ZA l k n=5):=HE.out.2.2.2.1 z1.out (by have:=HB.out;simpa using this);have hV:=Lib.hid (HN.out 5 hE.out (by decide));go_wp2_with fail
    go_region
    go_wp2;go_ret2
    refine⟨none,0,?_,?_,Qb z5.out.bl (below_drewN (D6 _ _) 1)⟩
    ·rw[hE.out,hV.out];rfl
    ·rw[hV.out];exact Nb _ _ _ _
  ·have e0:wr.cell? ⟨w.heap.size+1+1+1,8,none⟩=some (.func (.func 214) #[] #[.pointer (some ⟨w.heap.size,0,none⟩), .pointer (some ⟨w.heap.size+1,0,none⟩)]):=Qa z4 8 rfl;have e1:wr.cell? ⟨w.heap.size+1+1+1,9,none⟩=some (.int .i64 6):=Qa z4 9 rfl;have z0:=hI.step (Qd wr (.cells #[(.func (.func 214) #[] #[.pointer (some ⟨w.heap.size,0,none⟩), .pointer (some ⟨w.heap.size+1,0,none⟩)]), .int .i64 6] 354));have hl:l.length=256:=z1.out.2.1 (by omega);have z3:=Qa z0.s0 0 rfl;have z3:_=some (Value.slice A 256 c):=z3.trans (by rw[<-hl];rfl);have q:=open5_any _ _ A c l k _ hl z3 (Qa z0.s1 0 rfl) (z0.rd.more z0.bl.size);obtain⟨b,hb⟩:∃b:Bool,(((Xd l 4 2:Nat):Int) !=k)=b:=⟨_,rfl⟩;rw[hb] at q;have HB:=DY hb;have z6:=DY z0;clear hb hI z4 z0 z3 hl;go_wp2_with fail
   refine q.mono ?_;rintro e w2 ⟨rfl,m,rfl⟩;have z5:=DY (z6.out.step (below_drewN (D6 _ _) m));clear q;cases b with
   |false=>
    have z2:Hid (okO l k n 5):=⟨fun _=>z1.out.1 (by omega),fun _=>z1.out.2.1 (by omega),fun _=>z1.out.2.2.1 (by omega),fun _=>z1.out.2.2.2.1 (by omega),fun _=>by have:=HB.out;simpa using this,fun h=>by omega⟩
    go_wp2;go_roundw
    case rel=>exact⟨5,by omega,by go_num,z5.out,z2.out⟩
    case measure=>simp[intOf]
   |true=>
    have hE:Hid (ZA l k n=6):=HE.out.2.2.2.2.1 z1.out (by have:=HB.out;simpa using this);have hV:=Lib.hid (HN.out 6 hE.out (by decide));go_wp2_with fail
    go_region
    go_wp2;go_ret2
    refine⟨none,0,?_,?_,Qb z5.out.bl (below_drewN (D6 _ _) 1)⟩
    ·rw[hE.out,hV.out];rfl
    ·rw[hV.out];exact Nb _ _ _ _
  ·have e0:wr.cell? ⟨w.heap.size+1+1+1,10,none⟩=some (.func (.func 215) #[] #[.pointer (some ⟨w.heap.size,0,none⟩)]):=Qa z4 10 rfl;have e1:wr.cell? ⟨w.heap.size+1+1+1,11,none⟩=some (.int .i64 7):=Qa z4 11 rfl;have z0:=hI.step (Qd wr (.cells #[(.func (.func 215) #[] #[.pointer (some ⟨w.heap.size,0,none⟩)]), .int .i64 7] 354));have hl:l.length=256:=z1.out.2.1 (by omega);have z3:=Qa z0.s0 0 rfl;have z3:_=some (Value.slice A 256 c):=z3.trans (by rw[<-hl];rfl);have q:=open6_any _ A c l _ hl z3 (z0.rd.more z0.bl.size);obtain⟨b,hb⟩:∃b:Bool,(((Xd l 6 2:Nat):Int) !=0)=b:=⟨_,rfl⟩;rw[hb] at q;have HB:=DY hb;have z6:=DY z0;clear hb hI z4 z0 z3 hl;go_wp2_with fail
   refine q.mono ?_;rintro e w2 ⟨rfl,rfl⟩;have z5:=z6;clear q;cases b with
   |false=>
    have z2:Hid (okO l k n 6):=⟨fun _=>z1.out.1 (by omega),fun _=>z1.out.2.1 (by omega),fun _=>z1.out.2.2.1 (by omega),fun _=>z1.out.2.2.2.1 (by omega),fun _=>z1.out.2.2.2.2.1 (by omega),fun _=>by have:=HB.out;simp at this;omega⟩
    go_wp2;go_roundw
    case rel=>exact⟨6,by omega,by go_num,z5.out,z2.out⟩
    case measure=>simp[intOf]
   |true=>
    have hE:Hid (ZA l k n=7):=HE.out.2.2.2.2.2.1 z1 (by have:=HB.out;simp at this;omega);have hV:=Lib.hid (HN.out 7 hE.out (by decide));go_wp2_with fail
    go_region
    go_wp2;go_ret2
    refine⟨none,0,?_,?_,Qb z5.out.bl (below_drewN (D6 _ _) 1)⟩
    ·rw[hE.out,hV.out];rfl
    ·rw[hV.out];exact Nb _ _ _ _
  ·have hE:Hid (ZA l k n=0):=HE.out.2.2.2.2.2.2 z1;have hV:=DY (HV.out hE.out);have hl:l.length=256:=z1.out.2.1 (by omega);have z3:=Qa hI.s0 0 rfl;have z3:wr.cell? ⟨w.heap.size,0,none⟩=some (Value.slice A 256 c):=z3.trans (by rw[<-hl];rfl);have hr:=(hI.rd.more hI.bl.size);have z8:=DY (show((l.drop 8).take 244).length=244 by rw[Ni,Nq];omega);have HB:=DY hI.bl;have hc252:(252:Int)<=(c:Int):=by omega
   have za:=fun(A':Option Addr) (h:A'=A.map (·.add 8))=>Y5 A' (c-8) ((l.drop 8).take 244) wr wr.heap.size (Na _) (by simp only[reachBytes,Ni];omega) (by
    have h2:=hr.drop (k:=8) (cap:=c) (by rw[Qm];omega);rw[if_neg (by omega),Xj] at h2;have h3:=h2.take 244;rw[Xi] at h3;rw[h];exact h3)
   rw[show((l.drop 8).take 244).length=244 by rw[Ni,Nq];omega] at za
   obtain⟨ad,rfl,-,-⟩:=hr.at_ (k:=0) (by rw[Qm];omega);have za:=za (some (ad.add 8)) rfl;have hne:c≠8:=by omega
   clear hr z4 hI hl;go_wp2_with fail
   refine za.mono ?_;rintro e w2 ⟨A2,c2,rfl,z7,z9⟩;rw[Qm,z8.out] at z7;rw[Qm,z8.out];have ze:=Qb HB z9;have zb:=Q7 z7 HB.out.size;clear z7 z9 za z3;go_wp2;go_ret2
   exact⟨A2,c2,by rw[hE.out,hV.out,Qm,z8.out];rfl,by rw[hV.out,Qm,z8.out];exact zb,ze⟩
def nv(l:List Nat):List Value:=iv (l.map fun n:Nat=>(n:Int))
theorem U7(l:List Nat):(nv l).length=l.length:=by simp[nv,iv]
theorem Uu(a b:List Nat):nv (a++b)=nv a++nv b:=by simp[nv,iv]
theorem R0(n m:Nat)(hm:0<m)(hn:n<=1099511627776)(hm2:m<=1099511627776)(w:World):
  Calls prog 223 #[.int .i64 n, .int .i64 m] w fun e w'=>e= .returned (.int .i64 (Xf n m))/\w=w':=by
 have hx:=overV_max n m hm;have hq:((n:Int)+m-1)/ m=(((n+m-1)/ m:Nat):Int):=by
  rw[Int.natCast_ediv]
  congr 1
  omega
 generalize (n+m-1)/ m=q at*;have HX:=DY hx;have HQ:=DY hq;have h1:(0:Int)<(m:Int):=by omega
 have h2:(0:Int)<=(n:Int)+m-1:=by omega
 have h3:((m:Int)==0)=false:=by simp;omega
 clear hx hq;go_enter func223,ntmps223
 go_wp2;all_goals
  have e1:=HX.out;have e2:=HQ.out;rw[e2] at h;have e3:((Xf n m:Nat):Int)=q∨(((Xf n m:Nat):Int)=1/\(q:Int)<=1):=by omega
  rcases e3 with e3|e3
  all_goals
   go_ret;exact⟨ret_int (by first|(rw[e2];omega)|omega),rfl⟩
theorem levels_any(t n:Int)(w:World):Calls prog 165 #[.int .i64 t, .int .i64 n] w (XQ 3 (nv (XR t n)) w):=by
 obtain⟨i0',hi,zd,z9,za⟩:=info_parts Tryz.infoI64;have h1:=fun W=>YZ t true W
 have h2:=fun W=>YZ t false W
 have hb:=maxV_both t;have hl:=maxV_leaf t;by_cases hz:ZE t true=0
 ·have hv:XR t n=[]:=by unfold XR;rw[if_pos (.inl hz)]
  rw[hv];rw[hz] at h1;clear hv hb hz hl;generalize ZE t false=mi at*;go_enter func165,ntmps165
  go_wp2_with fail
  refine(h1 _).mono ?_;rintro e w1 ⟨rfl,rfl⟩;go_wp2_with fail
  refine(h2 _).mono ?_;rintro e w1 ⟨rfl,rfl⟩;go_wp2;go_ret;exact⟨none,0,rfl,Nb _ _ _ _,D6 _ _⟩
 obtain⟨z2,z8⟩:=hb hz;have d1:((ZE t true:Int)==0)=false:=by simp;omega
 rw[z2] at h2;by_cases hn:n<0∨32768<n
 ·have hv:XR t n=[]:=by unfold XR;rw[if_pos (by omega)]
  rw[hv];clear hv hb hl z2 z8;generalize ZE t true=ml at*;by_cases h0:n<0
  ·have d2:decide (n<0)=true:=decide_eq_true h0;clear hn hz;go_enter func165,ntmps165
   go_wp2_with fail
   refine(h1 _).mono ?_;rintro e w1 ⟨rfl,rfl⟩;go_wp2_with fail
   refine(h2 _).mono ?_;rintro e w1 ⟨rfl,rfl⟩;go_wp2;go_ret;exact⟨none,0,rfl,World.ownsRow_nil _ _ _ _,D6 _ _⟩
  ·have d2:decide (n<0)=false:=decide_eq_false h0;have d3:decide (32768<n)=true:=decide_eq_true (by omega);clear hn hz;go_enter func165,ntmps165
   go_wp2_with fail
   refine(h1 _).mono ?_;rintro e w1 ⟨rfl,rfl⟩;go_wp2_with fail
   refine(h2 _).mono ?_;rintro e w1 ⟨rfl,rfl⟩;go_wp2;go_ret;exact⟨none,0,rfl,World.ownsRow_nil _ _ _ _,D6 _ _⟩
 obtain⟨m,rfl⟩:=NB (show 0<=n by omega);have hm:m<=32768:=by omega
 have hv:XR t (m:Int)=lvl 18 (Xf m (ZE t true)):=by unfold XR;rw[if_neg (by omega),N3]
 rw[hv];have d2:decide ((m:Int)<0)=false:=decide_eq_false (by omega);have d3:decide ((32768:Int)<m)=false:=decide_eq_false (by omega);have ho:=R0 m (ZE t true) (by omega) (by omega) (by omega);have hk0:=R1 m (ZE t true);clear hv hb hn z2 hz hl z8;generalize ZE t true=ml at*;generalize Xf m ml=k0 at*;go_enter func165,ntmps165
 go_wp2_with fail
 refine(h1 _).mono ?_;rintro e w1 ⟨rfl,rfl⟩;go_wp2_with fail
 refine(h2 _).mono ?_;rintro e w1 ⟨rfl,rfl⟩;go_wp2_with fail
 refine(ho _).mono ?_;rintro e w1 ⟨rfl,rfl⟩;clear h1 h2 ho;have z4:=LL (e:=3) (size:=1) (base:=w.heap.size) w #[.int .i64 k0] 1 (Na _) (by simp[maxLen]) (by simp);go_wp2_with fail
 go_loopw [7] (fun v wr=>∃(z0:List Nat) (k:Nat),lvl 18 k0=z0++lvl 18 k/\k+z0.length<=k0/\wr.ownsRow w.heap.size 3 1 v (z0.length+1) (nv (z0++[k]))/\Below w.heap.size w wr) (fun v _=>match v with| .slice _ n _=>k0+2-n|_=>0)
 case atStart=>exact⟨[],k0,by simp,by simp,z4,Qd w _⟩
 case round=>
  obtain⟨z0,k,z7,hkd,z1,z5⟩:=hrel;obtain⟨Ao,co,rfl⟩:=QN z1;obtain⟨g,rfl,hc⟩:=Z9 z1 (by omega);have hck:=hc z0.length (.int .i64 k) (by simp[nv,iv]);have z6:=DY z7;clear z7 hc;by_cases hk:1<k
  ·have d4:decide ((1:Int)<(k:Int))=true:=decide_eq_true (by omega);have hlt:=J1 (k:=k) (m:=18) (by omega) hk;have ho:=R0 k 18 (by omega) (by omega) (by omega);have HM:=DY (Gc 18 k (by omega) hk);generalize Xf k 18=k2 at*;have zc:=Qh.new wr (nv [k2]) 3 (0,0);have ze:=z5.size;rw[show((18:Nat):Int)=18 from rfl] at ho
   go_wp2_with fail
   refine(ho _).mono ?_;rintro e w1 ⟨rfl,rfl⟩;clear ho;go_wp2_with (at_builtin;refine QE _ rfl (.tmp 33) (.tmp 42) _ rfl w.heap.size 3 i0' _ 8 underlying68 hi zd z9 za rfl _ (z0.length+1) (nv (z0++[k])) rfl (z1.alloc _) _ _ 1 1 (nv [k2]) rfl rfl zc (Jo _) (by simp only[maxLen];omega) (by omega) (by simp;omega) ?_;intro A' c' w3 z3 hg3 zb _)
   go_roundw
   case rel=>exact⟨z0++[k],k2,by rw[z6.out,HM.out];simp,by rw[D7];simp;omega,by rw[D7,Uu];exact z3,(z5.alloc ze _).trans zb⟩
   case measure=>simp;omega
  ·have d4:decide ((1:Int)<(k:Int))=false:=decide_eq_false (by omega);have HM:=DY (Do 18 k hk);go_wp2;go_ret;exact⟨some ⟨g,0,none⟩,co,by rw[z6.out,HM.out,U7,D7];rfl,by rw[z6.out,HM.out,U7,List.length_append];exact z1,z5⟩
theorem sum_snoc(l:List Nat)(k:Nat)(h:k<l.length):(l.take (k+1)).sum=(l.take k).sum+l[k]:=by
 rw[Xn l k h,List.sum_append];simp
theorem sum_take_le(l:List Nat)(k:Nat):(l.take k).sum<=l.sum:=by
 conv=>rhs;rw[<-N0 k l]
 rw[LJ];omega
theorem Ds(t n:Int):(XR t n).length<=40000/\(XR t n).sum<=1200000000:=by
 unfold XR
 split
 ·simp
 ·rename_i h
  have h1:=R1 n.toNat (ZE t true);have hk:Xf n.toNat (ZE t true)<=32769:=by omega
  generalize Xf n.toNat (ZE t true)=k at*;have h2:=lvl_len 18 (by omega) k;have h3:=lvl_sum 18 (by omega) k;have h4:k*k<=32769*32769:=Nat.mul_le_mul hk hk;omega
theorem Yt(t n:Int)(w:World):Calls prog 105 #[.int .i64 t, .int .i64 n] w fun e w'=>e= .returned (.int .i64 (Yu t n))/\Below w.heap.size w w':=by
 have hl:=levels_any t n w;obtain⟨b1,b2⟩:=Ds t n;unfold Yu;generalize XR t n=l at*;go_enter func105,ntmps105
 go_wp2_with fail
 refine hl.mono ?_;rintro e w1 ⟨A,c,rfl,z0,hB⟩;rw[U7] at z0;rw[U7];have hr:=Qh.of_own z0;clear hl z0;go_wp2_with fail
 go_loop [5,12] (fun s i=>∃k:Nat,k<=l.length/\i= .int .i64 k/\s= .int .i64 ((l.take k).sum:Nat)) (fun _ i=>l.length-(intOf i).toNat)
 case atStart=>exact⟨0,by omega,rfl,rfl⟩
 case round=>
  obtain⟨k,hk,rfl,rfl⟩:=hrel;by_cases hlt:k<l.length
  ·obtain⟨ad,rfl,_,hc⟩:=hr.num (k:=k) (by simpa using hlt);rw[List.getElem_map] at hc;have hs:=sum_snoc l k hlt;have h1:=sum_take_le l (k+1);have HS:=DY hs;have hx:(l.take k).sum+l[k]<=1200000000:=by omega
   clear hs h1;generalize l[k]=x at*;generalize (l.take k).sum=y at*;go_wp2;go_round
   case rel=>exact⟨k+1,by omega,by go_num,by rw[HS.out];go_num⟩
   case measure=>simp[intOf];omega
  ·obtain rfl:k=l.length:=by omega
   go_wp2;go_ret;exact⟨by first|rfl|(rw[Nw];rfl),hB⟩
theorem made_nums'(n:Nat):(madeCells (Value.int .i64 0).cells (n*1)).toList=iv (List.replicate n 0):=by
 rw[NE];apply Lo
 ·simp[madeCells,iv]
 ·intro i h1 h2;simp[madeCells,iv,Value.cells,LT]
def KZ(S:List Nat)(k:Nat):List Value:=nv (S.take k++List.replicate (S.length-k) 0)
theorem upTo_zero(S:List Nat):KZ S 0=iv (List.replicate S.length 0):=by simp[KZ,nv,iv]
theorem upTo_all(S:List Nat):KZ S S.length=nv S:=by simp[KZ]
theorem upTo_set(S:List Nat)(k:Nat)(h:k<S.length):(KZ S k).set k (.int .i64 (S[k]:Nat))=KZ S (k+1):=by
 have e:S.length-k=(S.length-(k+1))+1:=by omega
 have h1:KZ S k=nv (S.take k)++(.int .i64 0::nv (List.replicate (S.length-(k+1)) 0)):=by
  unfold KZ;rw[Uu,e,List.replicate_succ]
  rfl
 have h2:(nv (S.take k)).length=k:=by rw[U7,Ni];omega
 rw[h1,List.set_append_right _ _ (by omega),h2,Nat.sub_self,Nf];unfold KZ;rw[Uu,Xn S k h,Uu,NQ]
 rfl
theorem RL(n m:Nat)(hn:n<=32768)(hm:0<m)(hm2:m<=9223372036854775807)(w:World):Calls prog 253 #[.int .i64 n, .int .i64 m] w (XQ 3 (nv (XH n m)) w):=by
 obtain⟨i0',hi,zd,zb,zc⟩:=info_parts Tryz.infoI64;have d1:decide ((n:Int)<0)=false:=decide_eq_false (by omega);have d2:decide ((32768:Int)<n)=false:=decide_eq_false (by omega);have d3:decide ((m:Int)<1)=false:=decide_eq_false (by omega);obtain⟨M,z4,hM2,z9,z8⟩:∃M:Nat,0<M/\M<=32768/\XH n m=XH n M/\(32768<m/\M=32768∨m<=32768/\M=m):=by
  rcases NC 32768 m with h|h
  ·exact⟨32768,by omega,by omega,sizesV_big n m 32768 hn (by omega) (by omega), .inl ⟨h,rfl⟩⟩
  ·exact⟨m,hm,h,rfl, .inr ⟨h,rfl⟩⟩
 rw[z9];have ho:=fun W=>R0 n M z4 (by omega) (by omega) W
 have hS:=sizesV_len n M;have z1:=sizesV_get n M z4;have hK:=R1 n M;rw[<-hS] at ho z1 hK;have ze:=Ov n M z4;have z3:∀k,k<(XH n M).length->k*M<=n:=fun k hk=>by
  rw[hS] at hk;unfold Xf at hk;have:=Nat.mul_le_mul_right M (show k<=(n-1)/ M by omega);omega
 generalize XH n M=S at*;clear z9 hS ze;have HG:=DY z1;clear z1;go_enter func253,ntmps253
 go_upto_region 3 with fail
 go_cut [1] (fun s1 wx=>s1= .int .i64 M/\w=wx)
 case first=>
  rcases z8 with⟨h1,rfl⟩|⟨h1,rfl⟩
  ·have e1:decide ((32768:Int)<(m:Int))=true:=decide_eq_true (by omega);go_wp2;go_meet
   exact⟨rfl,rfl⟩
  ·have e1:decide ((32768:Int)<(M:Int))=false:=decide_eq_false (by omega);go_wp2;go_meet
   exact⟨rfl,rfl⟩
 case rest=>
  obtain⟨rfl,rfl⟩:=hcut;clear z8 d3;go_wp2_with fail
  refine(ho _).mono ?_;rintro e w1 ⟨rfl,rfl⟩;clear ho;go_wp2_with (at_make;refine wpList_make_full _ rfl (.tmp 21) (.tmp 21) _ rfl w.heap.size 3 i0' _ 1 underlying68 hi zd zb .i64 .i64 S.length S.length S.length rfl rfl rfl rfl (by rw[zc];omega) (by simp only[maxLen];omega) (Na _) ?_;intro w2 z0 hg)
  rw[show(madeCells (Value.int .i64 0).cells (S.length*1)).toList=KZ S 0 from by rw[upTo_zero];exact made_nums' S.length] at z0
  have hB:Below w.heap.size w w2:=(D6 _ _).grown hg (Na _) (fun k hk=>by cases hk);go_loopw [25] (fun i wr=>∃k:Nat,k<=S.length/\i= .int .i64 k/\wr.ownsRow w.heap.size 3 1 (.slice (some ⟨w.heap.size,0,none⟩) S.length S.length) S.length (KZ S k)/\Below w.heap.size w wr) (fun i _=>S.length-(intOf i).toNat)
  case atStart=>exact⟨0,by omega,rfl,z0,hB⟩
  case round=>
   obtain⟨k,hk,rfl,z0,z6⟩:=hrel;by_cases hlt:k<S.length
   ·have hx:=HG.out k hlt;rw[D1 hlt] at hx
    injection hx with hx
    have za:=z3 k hlt;have hcell:wr.cell? ⟨w.heap.size,k,none⟩=some (.int .i64 0):=by
     rw[z0.cellAt k (by omega)];simp only[KZ,nv,iv,Ns,List.map_take,List.map_replicate];rw[LE (by simp;omega),LS,if_pos (by simp;omega)]
     rfl
    have hfz:=z0.frozenAt k;obtain⟨z5,hgr⟩:=z0.stored k (.int .i64 (S[k]:Nat));rw[upTo_set S k hlt] at z5;have z7:Below w.heap.size w (wr.setCell ⟨w.heap.size,k,none⟩ (.int .i64 (S[k]:Nat))):=z6.setCell (Na _) _;have i0:(0:Int)<=(k:Int):=by omega
    have i1:(k:Int)<(S.length:Int):=by omega
    have hkm2:(k:Int)*(M:Int)<=n:=by exact_mod_cast za
    have hkm3:(0:Int)<=(k:Int)*(M:Int):=Int.mul_nonneg (by omega) (by omega);have z2:((n-k*M:Nat):Int)=(n:Int)-(k:Int)*(M:Int):=by rw[Int.natCast_sub za];simp
    have hv:((S[k]:Nat):Int)=if(n:Int)-(k:Int)*(M:Int)<(M:Int) then(n:Int)-(k:Int)*(M:Int) else(M:Int):=by
     rw[<-z2,hx]
     split<;>omega
    rw[hv] at z5 z7;clear hv hx z2;go_wp2;go_roundw
    case rel=>exact⟨k+1,by omega,by go_num,z5,z7⟩
    case measure=>simp[intOf];omega
   ·obtain rfl:k=S.length:=by omega
    rw[upTo_all] at z0;go_wp2;go_ret;exact⟨some ⟨w.heap.size,0,none⟩,S.length,by rw[U7];rfl,by rw[U7];exact z0,z6⟩
end Go.Proofs.YtijcgllddnpmhaaGreatDoor
