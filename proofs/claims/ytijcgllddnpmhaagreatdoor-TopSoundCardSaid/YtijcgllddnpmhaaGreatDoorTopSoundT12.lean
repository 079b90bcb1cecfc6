/- TopSound: lemmas, part 12. -/
import Derived.Test.YtijcgllddnpmhaaGreatDoorTopSoundT09
set_option maxRecDepth 100000
set_option maxHeartbeats 16000000
set_option linter.all false
namespace Go.Proofs.YtijcgllddnpmhaaGreatDoor
open Go.RowKit Go.Proofs.Tryz
def zE:Qv:=⟨0,[],0⟩
def Zr(over:List Qv)(k:Nat):Int:=(over.getD k zE).key
def YN(over:List Qv)(k:Nat):List UInt8:=(over.getD k zE).val
def Vg(over:List Qv):Nat->Int
 |0=> -1
 |k+1=>Zr over k
def Gm(b:List Int)(last key:Int)(val:List UInt8):Int:=if key<=last then 8 else if key∈Z6 b then rdE [countP] val else 13
def Jr(b:List Int)(over:List Qv):Nat->Int
 |0=>0
 |k+1=>if Jr b over k=0 then Gm b (Vg over k) (Zr over k) (YN over k) else Jr b over k
def Rb(b:List Int)(over:List Qv):Nat->List Int
 |0=>b
 |k+1=>(Rb b over k).set (Zr over k).toNat (rd1 countP (YN over k))
def YX(b:List Int)(over:List Qv):Nat->List Int
 |0=>Z6 b
 |k+1=>(YX b over k).filter fun y=>decide (y≠Zr over k)
def Yf(bits:List (List Int))(over:List Qv):Int:=
 if JE bits=true then(if Jr bits.flatten over over.length=0 then(if(Z6 bits.flatten).length=over.length then 0 else 13) else Jr bits.flatten over over.length) else 7
def YY(bits:List (List Int))(over:List Qv):List Int:=if Yf bits over=0 then Rb bits.flatten over over.length else []
theorem EL{b:List Int}{over:List Qv}{i:Nat}:∀k,i<k->Jr b over i=0->Gm b (Vg over i) (Zr over i) (YN over i)≠0->Jr b over k=Gm b (Vg over i) (Zr over i) (YN over i)
 |0,h,_,_=>absurd h (by omega)
 |k+1,h,h0,h1=>by
  unfold Jr;rcases NC i k with h2|h2
  ·rw[EL k h2 h0 h1,if_neg h1]
  ·obtain rfl:i=k:=by omega
   rw[if_pos h0]
theorem errJ_next{b:List Int}{over:List Qv}{k:Nat}(h:Jr b over k=0)(h1:Gm b (Vg over k) (Zr over k) (YN over k)=0):Jr b over (k+1)=0:=by unfold Jr;rw[if_pos h,h1]
theorem EM{b:List Int}{over:List Qv}{k:Nat}(h:Jr b over (k+1)=0):Jr b over k=0/\Gm b (Vg over k) (Zr over k) (YN over k)=0:=by
 unfold Jr at h
 split at h
 ·rename_i h0;exact⟨h0,h⟩
 ·rename_i h0;exact absurd h h0
theorem EN{b:List Int}{last key:Int}{val:List UInt8}(h:Gm b last key val=0):last<key/\key∈Z6 b/\rdE [countP] val=0:=by
 unfold Gm at h
 split at h
 ·cases h
 ·split at h
  ·rename_i h1 h2;exact⟨by omega,h2,h⟩
  ·cases h
theorem lastK_ge{b:List Int}{over:List Qv}:∀{k:Nat},Jr b over k=0->∀i,i<k->Zr over i<=Vg over k
 |0,_,i,hi=>absurd hi (by omega)
 |k+1,h,i,hi=>by
  obtain⟨h0,h1⟩:=EM h;have:=(EN h1).1;rcases NC i k with h2|h2
  ·have h3:=lastK_ge h0 i h2
   show Zr over i<=Zr over k
   omega
  ·obtain rfl:i=k:=by omega
   exact Int.le_refl _
theorem Es{b:List Int}{over:List Qv}{x:Int}:∀{k:Nat},x∈YX b over k↔x∈Z6 b/\∀i,i<k->x≠Zr over i
 |0=>⟨(fun h=>⟨h,fun i hi=>absurd hi (by omega)⟩),(fun h=>h.1)⟩
 |k+1=>by
  unfold YX;rw[List.mem_filter,Es,decide_eq_true_iff];constructor
  ·rintro⟨⟨h1,h2⟩,h3⟩;refine⟨h1,fun i hi=>?_⟩
   rcases NC i k with h4|h4
   ·exact h2 i h4
   ·obtain rfl:i=k:=by omega
    exact h3
  ·rintro⟨h1,h2⟩;exact⟨⟨h1,fun i hi=>h2 i (by omega)⟩,h2 k (by omega)⟩
theorem Ks{b:List Int}{over:List Qv}{k:Nat}(h:Jr b over k=0){x:Int}(hx:Vg over k<x):x∈YX b over k↔x∈Z6 b:=by
 rw[Es];exact⟨fun h1=>h1.1,fun h1=>⟨h1,fun i hi e=>by have:=lastK_ge h i hi;omega⟩⟩
theorem J4(b:List Int)(over:List Qv):∀k,(YX b over k).Nodup
 |0=>openL_nodup b
 |k+1=>(J4 b over k).filter _
theorem Et{b:List Int}{over:List Qv}:∀{k:Nat},Jr b over k=0->(YX b over k).length+k=(Z6 b).length
 |0,_=>rfl
 |k+1,h=>by
  obtain⟨h0,h1⟩:=EM h;obtain⟨h2,h3,_⟩:=EN h1;have h4:=VN (Zr over k) _ (J4 b over k) ((Ks h0 h2).2 h3);have h5:=Et h0;unfold YX;omega
theorem J2(b:List Int)(over:List Qv):∀k,(Rb b over k).length=b.length
 |0=>rfl
 |k+1=>by unfold Rb;rw[LK,J2 b over k]
theorem join_form{bits:List (List Int)}{over:List Qv}(h:JE bits=false):Yf bits over=7/\YY bits over=[]:=by
 have h1:Yf bits over=7:=by unfold Yf;rw[h];rfl
 exact⟨h1,by unfold YY;rw[h1];rfl⟩
theorem join_stop{bits:List (List Int)}{over:List Qv}{k:Nat}{er:Int}(h:JE bits=true)(hk:k<over.length)(h0:Jr bits.flatten over k=0)(he:Gm bits.flatten (Vg over k) (Zr over k) (YN over k)=er)(hr:er≠0):Yf bits over=er/\YY bits over=[]:=by
 subst he;have h1:Yf bits over=Gm bits.flatten (Vg over k) (Zr over k) (YN over k):=by
  unfold Yf;rw[if_pos h,EL _ hk h0 hr,if_neg hr]
 exact⟨h1,by unfold YY;rw[h1,if_neg hr]⟩
theorem join_end{bits:List (List Int)}{over:List Qv}(h:JE bits=true)(h0:Jr bits.flatten over over.length=0):
  ((YX bits.flatten over over.length).length≠0->Yf bits over=13/\YY bits over=[])/\((YX bits.flatten over over.length).length=0->Yf bits over=0/\YY bits over=Rb bits.flatten over over.length):=by
 have hl:=Et h0;constructor
 ·intro h1;have h2:Yf bits over=13:=by unfold Yf;rw[if_pos h,if_pos h0,if_neg (by omega)]
  exact⟨h2,by unfold YY;rw[h2];rfl⟩
 ·intro h1;have h2:Yf bits over=0:=by unfold Yf;rw[if_pos h,if_pos h0,if_pos (by omega)]
  exact⟨h2,by unfold YY;rw[if_pos h2]⟩
theorem Tryz.infoSlot:(prog.info? 148).map (fun i=>(i.zero,i.size,i.bytes))=some (some (.agg #[.int .i64 0, .int .i64 0, .int .i64 0]),3,24):=by kernel_rfl
theorem OY(a b:List S3):tv (a++b)=tv a++tv b:=by
 induction a with
 |nil=>rfl
 |cons p a ih=>
  obtain⟨x,y,z⟩:=p;simp[tv,ih]
theorem tv_len(a:List S3):(tv a).length=3*a.length:=by
 induction a with
 |nil=>rfl
 |cons p a ih=>
  obtain⟨x,y,z⟩:=p;simp[tv,ih];omega
theorem bext(l:List UInt8)(a b:Nat):(ByteArray.mk l.toArray).extract a b=ByteArray.mk ((l.take b).drop a).toArray:=by
 apply ByteArray.ext
 rw[ByteArray.data_extract];apply Array.ext'
 simp[List.drop_take]
theorem next_any(r:Nat)(l:List UInt8)(w:World)(hl:16<=l.length)(hb:Boxed w r 9 (.string ⟨l.toArray⟩)):
  Calls prog 197 #[.pointer (some ⟨r,0,none⟩)] w fun e w'=>e= .returned (.string ⟨(l.take 16).toArray⟩)/\w'=w.setCell ⟨r,0,none⟩ (.string ⟨(l.drop 16).toArray⟩):=by
 have hc:=hb.cell;have hf:=hb.frozen;have h16:(16:Int)<=(l.length:Int):=by omega
 go_enter func197,ntmps197
 go_wp2;go_ret;refine⟨?_,?_⟩
 ·have:=bext l 0 16;rw[Lw] at this;rw[<-this]
  rfl
 ·have:=bext l 16 l.length;rw[Nw] at this;rw[<-this]
theorem getV_cnt(s:List UInt8)(hl:s.length=244):ZZ s 0 4=(((XN s:Nat):Int),0):=by
 unfold ZZ;have h:=OI ((s.drop (0:Int).toNat).take (4:Int).toNat);have h2:((s.drop (0:Int).toNat).take (4:Int).toNat).length<=4:=by rw[Ni];omega
 have h3:256 ^((s.drop (0:Int).toNat).take (4:Int).toNat).length<=256 ^ 4:=Nat.pow_le_pow_right (by decide) h2;rw[if_pos (XB (by decide) (by omega) (by omega)),if_pos (by unfold Xd;omega)]
 rfl
def GivesT(ls:List S3)(err:Int)(w:World)(en:Ending)(w':World):Prop:=
 ∃A c,en= .returned (.tuple #[.slice A ls.length c, .int .i64 err])/\w'.ownsRow w.heap.size 148 3 (.slice A ls.length c) ls.length (tv ls)/\Below w.heap.size w w'
theorem rsl_no{s:List UInt8}(h:UT s=false):O6 s=[]/\JU s=7:=by
 have:JU s=7:=by unfold JU;rw[h];rfl
 unfold O6;rw[this];exact⟨rfl,rfl⟩
theorem rsl_bad{s:List UInt8}(h:UT s=true)(h2:Uf s (XN s)=false):O6 s=[]/\JU s=2:=by
 have:JU s=2:=by unfold JU;rw[h,h2];rfl
 unfold O6;rw[this];exact⟨rfl,rfl⟩
theorem rsl_ok{s:List UInt8}(h:UT s=true)(h2:Uf s (XN s)=true):O6 s=UP s (XN s)/\JU s=0:=by
 have:JU s=0:=by unfold JU;rw[h,h2];rfl
 unfold O6;rw[this];exact⟨rfl,rfl⟩
theorem vslots_any(A:Option Addr)(c:Nat)(s:List UInt8)(w:World)(hq:s.length<=c)(hm:s.length<=reachBytes)(h:Qh w w.heap.size A (bv s)):
  Calls prog 129 #[.slice A s.length c] w (GivesT (O6 s) (JU s) w):=by
 have zE:=hm;simp only[reachBytes] at zE;by_cases hl:s.length=244
 ·have z0:=Uz A c s 0 4 w _ hm h;rw[getV_cnt s hl,hl] at z0;have zd:=DY (show UT s=(decide (XN s<=15)&&Yh (s.drop (4+16*XN s))) by unfold UT;rw[decide_eq_true hl];rfl)
  obtain⟨ad,rfl,_⟩:=h.at_ (k:=0) (by rw[Qm];omega);rw[hl];by_cases h15:15<XN s
  ·have zh:=rsl_no (s:=s) (by rw[zd.out,decide_eq_false (by omega)];rfl);have HN:=DY zh;have d1:decide ((15:Int)<(XN s:Int))=true:=decide_eq_true (by omega);clear zh zd h15;generalize XN s=cnt at*;go_enter func129,ntmps129
   go_wp2_with fail
   refine z0.mono ?_;rintro e w1 ⟨rfl,rfl⟩;go_wp2;go_ret2
   exact⟨none,0,by rw[HN.out.1,HN.out.2];rfl,by rw[HN.out.1];exact Nb _ _ _ _,D6 _ _⟩
  ·have d1:decide ((15:Int)<(XN s:Int))=false:=decide_eq_false (by omega);have hk1:4+16*XN s<=244:=by omega
   obtain⟨A3,zC,zt⟩:∃A3,(if c=4+XN s*16 then some ad else some (ad.add (4+XN s*16)))=A3/\Qh w w.heap.size A3 (bv (s.drop (4+16*XN s))):=by
    have hd:=h.drop (k:=4+16*XN s) (cap:=c) (by rw[Qm];exact hq);rw[Xj] at hd;refine⟨_,rfl,?_⟩;rw[show 4+XN s*16=4+16*XN s by omega]
    exact hd
   have hz:=Rr A3 (c-(4+XN s*16)) (s.drop (4+16*XN s)) w _ (by rw[Nq];omega) zt;rw[show(s.drop (4+16*XN s)).length=244-(4+XN s*16) by rw[Nq];omega] at hz
   have z1:c=4+XN s*16->Calls prog 162 #[.slice A3 (244-(4+XN s*16)) 0] w fun e w'=>e= .returned (.bool (Yh (s.drop (4+16*XN s))))/\w=w':=fun hc=>by
    rw[show c-(4+XN s*16)=0 by omega] at hz
    exact hz
   have zg:=DY z1;cases hzz:Yh (s.drop (4+16*XN s)) with
   |false=>
    have HN:=Lib.hid (rsl_no (s:=s) (by rw[zd.out,hzz,Bool.and_false]));rw[hzz] at hz zg;clear hzz zd z1 h15;generalize XN s=cnt at*;go_enter func129,ntmps129
    go_wp2_with fail
    refine z0.mono ?_;rintro e w1 ⟨rfl,rfl⟩;go_wp2_with fail
    all_goals
     first|refine hz.mono ?_|refine(zg.out (by first|assumption|rfl)).mono ?_
     rintro e w1 ⟨rfl,rfl⟩;go_wp2;go_ret2
     exact⟨none,0,by rw[HN.out.1,HN.out.2];rfl,by rw[HN.out.1];exact Nb _ _ _ _,D6 _ _⟩
   |true=>
    have zx:=Lib.hid (show UT s=true by rw[zd.out,hzz,decide_eq_true (by omega)];rfl);rw[hzz] at hz zg;have HC:=Lib.hid h15;clear hzz zd z1 h15;generalize hcnt:XN s=cnt at*;have zl:=Lib.hid hcnt;clear hcnt;go_enter func129,ntmps129
    go_wp2_with fail
    refine z0.mono ?_;rintro e w1 ⟨rfl,rfl⟩;go_upto_region 4 with fail
    go_cut [0,26,29] (fun s0 _ b wx=>s0= .slice (some ad) 244 c/\b= .bool false/\w=wx)
    case first=>
     go_wp2_with fail
     all_goals
      first|refine hz.mono ?_|refine(zg.out (by first|assumption|rfl)).mono ?_
      rintro e w1 ⟨rfl,rfl⟩;go_wp2;go_meet
      exact⟨by first|rfl|rw[show c=4+cnt*16 by assumption],rfl,rfl⟩
    case rest=>
     obtain⟨rfl,rfl,rfl⟩:=hcut;have za:=h.drop (k:=4) (cap:=c) (by rw[Qm];exact hq);rw[if_neg (by omega),Xj] at za;have hrd4':Qh w w.heap.size (some ⟨ad.block,ad.off+4,none⟩) (bv (s.drop 4)):=za;have hcv:=Vb (P:=prog) w 22 9 5 underlying22 underlying5 underlying9 240 (c-4) (by rw[Nq];omega) hrd4';have c4:4<=c:=by omega
     have ci4:(4:Int)<=(c:Int):=by omega
     obtain⟨iS,hi,zF,zy,zz⟩:=info_parts Tryz.infoSlot;have zn:=DY (fun(k:Nat) (hk:k<cnt) (hh:rdE Q5 (sAt s k)≠0)=>rsl_bad zx (by rw[zl.out];exact goodS_no hk hh));have zf:=DY (fun(hh:Uf s cnt=true)=>(show O6 s=UP s cnt/\JU s=0 by
      have:=rsl_ok zx (by rw[zl.out];exact hh);rw[zl.out] at this;exact this))
     have zK:=Boxed.new w 9 (.string ⟨(s.drop 4).toArray⟩);have zB:=Qd w (.cells #[.string ⟨(s.drop 4).toArray⟩] 9);clear hz zg z0 zC zt za hrd4';go_wp2_with fail
     go_loopw [8,35] (fun v i wr=>∃k:Nat,k<=cnt/\i= .int .i64 k/\wr.ownsRow w.heap.size 148 3 v k (tv (UP s k))/\Boxed wr w.heap.size 9 (.string ⟨(s.drop (4+16*k)).toArray⟩)/\Uf s k=true/\Below w.heap.size w wr) (fun _ i _=>cnt-(intOf i).toNat)
     case atStart=>exact⟨0,by omega,rfl,Nb _ _ _ _,zK,rfl,zB⟩
     case round=>
      obtain⟨k,hk,rfl,z2,z5,zv,zr⟩:=hrel;obtain⟨Ao,co,rfl⟩:=QI z2;have zw:=DY zv;clear zv;by_cases hlt:k<cnt
      ·have zq:=next_any w.heap.size (s.drop (4+16*k)) wr (by rw[Nq];omega) z5;rw[List.drop_drop,show 4+16*k+16=4+16*(k+1) by omega] at zq
       have hnx':Calls prog 197 #[.pointer (some ⟨w.heap.size,0,none⟩)] wr fun e w'=>e= .returned (.string ⟨(sAt s k).toArray⟩)/\w'=wr.setCell ⟨w.heap.size,0,none⟩ (.string ⟨(s.drop (4+16*(k+1))).toArray⟩):=zq
       have zm:k<15:=by have:=HC.out;omega
       have zb:=sAt_len s k hl zm;have zp:=fun W=>VF (sAt s k) W (by rw[zb];decide)
       rw[tri_eq] at zp;have hd:=rd16 (sAt s k) zb;have zH:=DY (fun hh=>zn.out k hlt hh);have zD:=DY (goodS_snoc s k);have zG:=DY (trisS_snoc s k);have z6:=z5.set (.string ⟨(s.drop (4+16*(k+1))).toArray⟩);have z8:=z2.kept (Lib.grownBy_setCell wr w.heap.size 0 (.string ⟨(s.drop (4+16*(k+1))).toArray⟩)) (.inr (z5.not_row (by decide) z2).symm);have zc:=zr.setCell (p:=⟨w.heap.size,0,none⟩) (Nat.le_refl _) (.string ⟨(s.drop (4+16*(k+1))).toArray⟩);clear zq zb z5 z2;generalize sAt s k=sk at*;generalize (tri s k)=p3 at*;obtain⟨x0,x1,x2⟩:=p3;generalize rdE Q5 sk=ee at*;have hrs':∀W,Calls prog 71 #[.string ⟨sk.toArray⟩] W fun e w'=>e= .returned (.tuple #[.agg #[.int .i64 x0, .int .i64 x1, .int .i64 x2], .int .i64 ee])/\Below W.heap.size W w':=zp
       clear zp;have i0:(k:Int)<(cnt:Int):=by omega
       go_wp2_with fail
       refine hnx'.mono ?_;rintro e w3 ⟨rfl,rfl⟩;clear hnx';generalize hW:wr.setCell ⟨w.heap.size,0,none⟩ (.string ⟨(s.drop (4+16*(k+1))).toArray⟩)=w3 at*;clear hW;go_wp2_with fail
       refine(hrs' _).mono ?_;rintro e w4 ⟨rfl,zk⟩;have ze:=zc.trans (zk.mono zc.size);have z4:Boxed w4 w.heap.size 9 (.string ⟨(s.drop (4+16*(k+1))).toArray⟩):=Qe z6 zk;have z3:=Qk z8 zk;clear hrs' zk z6 z8 zc;rcases hd with rfl|rfl
       ·have zj:=(ze.alloc ze.size (.cells #[.int .i64 x0, .int .i64 x1, .int .i64 x2] 148)).alloc (by have:=ze.size;simp;omega) (.cells #[.int .i64 x0, .int .i64 x1, .int .i64 x2] 148);have z9:=(z3.alloc (.cells #[.int .i64 x0, .int .i64 x1, .int .i64 x2] 148)).alloc (.cells #[.int .i64 x0, .int .i64 x1, .int .i64 x2] 148);have z7:=(z4.alloc (.cells #[.int .i64 x0, .int .i64 x1, .int .i64 x2] 148)).alloc (.cells #[.int .i64 x0, .int .i64 x1, .int .i64 x2] 148);have zs:=Qh.new (w4.alloc (.cells #[.int .i64 x0, .int .i64 x1, .int .i64 x2] 148)) [.int .i64 x0, .int .i64 x1, .int .i64 x2] 148 (0,0);rw[Nr] at zs;have zI:=z7.not_row (by decide) z9;have hG:Uf s (k+1)=true:=by rw[zD.out,zw.out];rfl
        have HG:=DY hG;clear hG z3 z4 ze;go_wp2_with (at_builtin;(refine Qq _ rfl (.tmp 46) (.tmp 48) _ rfl w.heap.size 3 148 iS _ 24 underlying154 hi zF zy zz rfl (by decide) _ k _ rfl z9 _ _ 1 1 [.int .i64 x0, .int .i64 x1, .int .i64 x2] rfl rfl zs (by simp[Value.oneCell']) (by simp only[maxLen];omega) (by omega) zj.size ?_);intro A6 c6 w6 zi zA zJ _)
        go_roundw
        case rel=>exact⟨k+1,by omega,by go_num,by rw[zG.out,OY];exact zi,z7.kept zA zI,HG.out,zj.trans zJ⟩
        case measure=>simp[intOf];omega
       ·have zo:=DY (zH.out (by decide));have zj:=ze.alloc ze.size (.cells #[.int .i64 x0, .int .i64 x1, .int .i64 x2] 148);clear z3 z4;go_wp2;go_ret2
        exact⟨none,0,by rw[zo.out.1,zo.out.2];rfl,by rw[zo.out.1];exact Nb _ _ _ _,zj⟩
      ·obtain rfl:k=cnt:=by omega
       have HY:=DY (zf.out zw);have zu:=DY (trisS_len s k);go_wp2;go_ret2
       exact⟨Ao,co,by rw[HY.out.1,HY.out.2,zu.out];rfl,by rw[HY.out.1,zu.out];exact z2,zr⟩
 ·have zh:UT s=false:=by unfold UT;rw[decide_eq_false hl];rfl
  have HN:=DY (rsl_no zh);have d1:((s.length:Int) !=244)=true:=by simp;omega
  clear zh hl;go_enter func129,ntmps129
  go_wp2;go_ret2
  exact⟨none,0,by rw[HN.out.1,HN.out.2];rfl,by rw[HN.out.1];exact Nb _ _ _ _,D6 _ _⟩
theorem Ri{w:World}{B n c:Nat}{e:TypeId}{A:Option Addr}{xs:List Value}(h:w.ownsRow B e 1 (.slice A n c) n xs)(hn:0<n):n<=c:=by
 rcases h.2 with⟨hv,hz⟩|⟨g',cap,cur,hv,_,_,hnc,_⟩
 ·omega
 ·injection hv with e1 e2 e3
  omega
theorem ZI.of_own{w:World}{base:Nat}{e:TypeId}{A:Option Addr}{n c:Nat}{ls:List S3}(hn:n=ls.length)(h:w.ownsRow base e 3 (.slice A n c) n (tv ls)):ZI w w.heap.size A ls:=fun hp=>by
 rcases h.2 with⟨hv,hz⟩|⟨g,cap,cur,hv,hb,hg,_⟩
 ·omega
 ·injection hv with h1 h2 h3
  subst h1;have hc:=h.cells (g:=g) rfl;refine⟨g,0,rfl,(D0.1 hg).1,fun j p hj=>?_⟩
  obtain⟨t0,t1,t2⟩:=tv_get ls j p hj;have q0:=hc _ _ t0;have q1:=hc _ _ t1;have q2:=hc _ _ t2;rw[Zo,ND] at q0 q1 q2;rw[ND];exact⟨q0,q1,q2⟩
end Go.Proofs.YtijcgllddnpmhaaGreatDoor
