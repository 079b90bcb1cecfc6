/- TopSound: lemmas, part 44. -/
import Derived.Test.YtijcgllddnpmhaaGreatDoorTopSoundT43
set_option maxRecDepth 100000
set_option maxHeartbeats 16000000
set_option linter.all false
namespace Go.Proofs.YtijcgllddnpmhaaGreatDoor
open Go.RowKit Go.Proofs.Tryz
def LkB(bs:List UInt8)(n:Nat):Prop:=decide (n=0)=(Zc bs).isSome
theorem LkD.flag{bs:List UInt8}{B:Nat}{w:World}{f:Fd}{dl:List S3}(h:LkD bs B w f dl):LkB bs dl.length:=by
 unfold LkB;rcases h with⟨h1,h2⟩|⟨h1,ls,h2,-⟩
 ·rw[h2];have:=LQ.2 h1;simp;omega
 ·rw[h1,h2]
  rfl
theorem GM(f:Fd)(A:Option Addr)(n c:Nat)(W:World):(Instr.field 76 (.agg (f.cells (.slice A n c))) 4).run prog W= .ok (.slice A n c) W:=by
 unfold Fd.cells fdC;simp[Instr.field,go_sem,asAgg]
theorem ccheck_any{w:World}{base m:Nat}{bs:List UInt8}(hi:ZH w base m bs)(hbs:base<=w.heap.size)(hT:XC w):
  Calls prog 34 #[.pointer (some ⟨m,0,none⟩), .int .i64 1000000] w fun e w'=>∃(dl:List S3) (A:Option Addr) (c:Nat),e= .returned (.slice A dl.length c)/\Below w.heap.size w w'/\w'.ownsRow w.heap.size 79 3 (.slice A dl.length c) dl.length (tv dl)/\LkB bs dl.length:=by
 have KL:=Gx hi hbs hT;clear hi hbs hT;go_enter func34,ntmps34
 go_wp2_with fail
 refine KL.mono ?_;rintro e w2 ⟨f,dl,A,c,rfl,hb,ho,hD⟩;have HF:=DY (DZ hb (DZ ho hD));clear KL hb ho hD;have hfd:=GM f A dl.length c;generalize f.cells (.slice A dl.length c)=C at*;go_wp2;go_ret;exact⟨dl,A,c,rfl,HF.out.1,HF.out.2.1,HF.out.2.2.flag⟩
theorem img_base{w:World}{B g:Nat}{A:Option Addr}{c:Nat}{bs:List UInt8}(h:Img w B g A c bs):ZH w w.heap.size g bs:=
 ⟨B,A,c,h,(D0.1 h.1).1,fun k hk=>(h.2.1.lt k hk).2⟩
theorem Gv(A:Option Addr)(c:Nat)(l:List UInt8)(w:World)(hq:l.length<=c)(hm:l.length<=reachBytes)(h:Qh w w.heap.size A (bv l))(hT:XC w):
  Calls prog 10 #[.slice A l.length c] w fun e w'=>e= .returned (.bool (Zc (V9 l)).isSome)/\Below w.heap.size w w':=by
 have KO:=iof_any A c l w hq hm h;have HT:=DY hT;clear hq hm h hT;go_enter func10,ntmps10
 go_wp2_with fail
 refine KO.mono ?_;rintro e w1 ⟨g,A1,c1,rfl,hi,z0⟩;have KC:=ccheck_any (img_base hi) (Na _) (HT.out.below z0);have z2:=DY z0;clear KO hi z0;go_wp2_with fail
 refine KC.mono ?_;rintro e w2 ⟨dl,A2,c2,rfl,z1,-,hf⟩;have z3:=DY (Qb z2 z1);have HF:=DY hf;clear KC z1 hf;go_wp2;go_ret;exact⟨by rw[<-show decide (dl.length=0)=(Zc (V9 l)).isSome from HF.out];cases dl<;>rfl,z3.out⟩
def GivesCk(bs:List UInt8)(w:World)(e:Ending)(w':World):Prop:=
 Below w.heap.size w w'/\((∃p s A c,Zc bs=some (p,s)/\e= .returned (.tuple #[Yc p A c, .nilIface])/\Qt w' w.heap.size (.slice A p.devs.length c) p.devs)∨(Zc bs=none/\∃v,e= .returned (.tuple #[.agg Zh,v])/\Qy 1 w' w'.heap.size v))
theorem ckpool_any{w:World}{base m:Nat}{bs:List UInt8}(hi:ZH w base m bs)(hbs:base<=w.heap.size)(hT:XC w):
  Calls prog 9 #[.pointer (some ⟨m,0,none⟩), .int .i64 1000000] w (GivesCk bs w):=by
 obtain⟨w1,zn,z7,zt⟩:=DS w (.cells Zh 28);have KL:=Gx (hi.below (z7.mono hbs)) (D3 hbs z7.size) (hT.below z7);have zr:=DY z7;have zK:=DY zt;have z8:∀v∈Zh.toList,v.oneCell'=true:=by simp[Zh,Value.oneCell']
 have za:(prog.info? 28).map (·.size)=some Zh.size:=Y4 _ _ _ _ _;clear hi hbs hT z7 zt;go_enter func9,ntmps9
 go_upto_region 1 with fail
 rw[show w.alloc (.cells #[.int .i64 0, .int .i64 0, .int .i64 0, .int .i64 0, .slice none 0 0] 28)=w1 from zn.symm]
 clear zn;go_wp2_with fail
 refine KL.mono ?_;rintro e w2 ⟨f,dl,A,c,rfl,z3,zb,hD⟩;have hA:=heap_alloc_new w2 (.cells (fd0.cells (.slice none 0 0)) 76);have zh:=Dv f (.slice A dl.length c);have zc:=fd_one f A dl.length c;have zJ:Hid (((fd0.cells (.slice none 0 0)).size)=(f.cells (.slice A dl.length c)).size):=rfl;have zs:=DY (DZ z3 (DZ zb hD));clear KL z3 zb hD;generalize hC:f.cells (.slice A dl.length c)=C at*;have zH:=DY hC;clear hC;go_upto_region 2 with(refine Ql rfl 76 _ _ rfl w2.heap.size C rfl rfl (fd0.cells (.slice none 0 0)) 76 hA zJ.out zh zc ?_;intro w3 z0 zx zG)
 obtain⟨z3,zb,hD⟩:=zs.out;have z6:Below w2.heap.size w2 w3:=(Qd w2 _).grown zx (Qd w2 _).size (fun k hk=>by cases hk;exact Na _);rw[<-zH.out] at z0;have zB:=DY (Qe (Qe zK z3) z6);have zm:=Qk zb z6;have zk:=DY (Qb (Qb zr z3) z6);have zv:w3.cell? ⟨w2.heap.size,11,none⟩=some (.int .i64 f.p0):=Qa z0 11 rfl;have zw:w3.cell? ⟨w2.heap.size,12,none⟩=some (.int .i64 f.p1):=Qa z0 12 rfl;have zC:w3.cell? ⟨w2.heap.size,13,none⟩=some (.int .i64 f.p2):=Qa z0 13 rfl;have zl:w3.cell? ⟨w2.heap.size,14,none⟩=some (.int .i64 f.p3):=Qa z0 14 rfl;have zu:w3.cell? ⟨w2.heap.size,15,none⟩=some (.slice f.PA f.Pn f.Pc):=Qa z0 15 rfl;have zd:w3.cell? ⟨w2.heap.size,18,none⟩=some (.slice A dl.length c):=Qa z0 18 rfl;have zz:=DY zm;have HD:=DY hD;have zi:=DY (DZ z3 z6);clear hA z3 zb z6 z0 zm hD zx zG zs;by_cases hd:dl=[]
 ·have d18':w3.cell? ⟨w2.heap.size,18,none⟩=some (.slice A 0 c):=by rw[zd,hd];rfl
  have zI:=DY hd;clear zd hd;rcases HD.out with⟨h1,-⟩|⟨-,ls,h2,h3,h4,h5,h6,h7,h8⟩
  ·exact absurd zI.out h1
  rw[h3] at zu;rw[h4] at zv;rw[h5] at zw;rw[h6] at zC;rw[h7] at zl;have zA:=zB.out;have zq:=DY (And.intro h2 (h8.keep zi.out.2));have z5:=Y4 (.int .i64 (f.a 0)) (.int .i64 (f.a 1)) (.int .i64 (f.a 2)) (.int .i64 (f.a 3)) (.slice f.PA ls.length f.Pc);have z9:∀v∈(#[.int .i64 (f.a 0), .int .i64 (f.a 1), .int .i64 (f.a 2), .int .i64 (f.a 3), .slice f.PA ls.length f.Pc]:Array Value).toList,v.oneCell'=true:=by simp[Value.oneCell']
  clear h2 h3 h4 h5 h6 h7 h8;go_wp2_with (refine Ql rfl 28 _ _ rfl w.heap.size #[.int .i64 (f.a 0), .int .i64 (f.a 1), .int .i64 (f.a 2), .int .i64 (f.a 3), .slice f.PA ls.length f.Pc] rfl rfl Zh 28 zA rfl z5 z9 ?_;intro w4 h4 zD hs4)
  refine bodyPost_ret (v:= .tuple #[.agg #[.int .i64 (f.a 0), .int .i64 (f.a 1), .int .i64 (f.a 2), .int .i64 (f.a 3), .slice f.PA ls.length f.Pc], .nilIface]) (Qw (p:=4) (u:=5) rfl _ _ w.heap.size 28 _ _ _ rfl h4 underlying28 rfl z5) rfl ?_;refine⟨zk.out.grown zD zk.out.size (fun k hk=>by cases hk;exact Na _), .inl ⟨⟨f.a 0,f.a 1,f.a 2,f.a 3,ls⟩,f.a,f.PA,f.Pc,zq.out.1,rfl,?_⟩⟩;have ho:=zq.out.2.kept zD (fun e he u s n xs ho=> .inr (Qi zA (by rcases he with rfl|rfl<;>decide) ho).symm);exact ho.mono (D3 (Na _) zr.out.size)
 ·obtain⟨⟨kd,z4,er⟩,r,rfl⟩:∃x r,dl=x::r:=by
   cases dl with
   |nil=>exact absurd rfl hd
   |cons x r=>exact⟨x,r,rfl⟩
  have hq:Zc bs=none:=by
   rcases HD.out with⟨-,h1⟩|⟨h1,-⟩
   ·exact h1
   ·cases h1
  have HQ:=DY hq;have ho:=zz.out;have zE:0<((kd,z4,er)::r:List S3).length:=by simp
  obtain⟨q,rfl,y0,y1,y2⟩:∃q,A=some ⟨q,0,none⟩/\w3.cell? ⟨q,0,none⟩=some (.int .i64 kd)/\w3.cell? ⟨q,1,none⟩=some (.int .i64 z4)/\w3.cell? ⟨q,2,none⟩=some (.int .i64 er):=by
   rcases ho.2 with⟨hv,hz⟩|⟨q,cap,cur,hv,hb,hg,_⟩
   ·omega
   ·injection hv with h1 h2 h4
    subst h1;have hc:=ho.cells (g:=q) rfl;exact⟨q,rfl,hc 0 _ rfl,hc 1 _ rfl,hc 2 _ rfl⟩
  obtain⟨w4,zy,zj,zf⟩:=DS w3 (.cells #[.int .i64 kd, .int .i64 z4, .int .i64 er] 79);have z1:w4.cell? ⟨w3.heap.size,1,none⟩=some (.int .i64 z4):=Qa zf 1 rfl;have z2:w4.cell? ⟨w3.heap.size,2,none⟩=some (.int .i64 er):=Qa zf 2 rfl;have KA:=Xk 0 z4 (.iface 37 (.int .i64 er)) w4 (Qy.num _ _ _ _);have zF:=DY (Qe zB zj);have zL:=DY (Qb zk zj);have hlen:decide (0<r.length+1)=true:=decide_eq_true (by omega);rw[show((kd,z4,er)::r).length=r.length+1 from rfl] at zd
  have hlen2:0<r.length+1:=by omega
  generalize r.length+1=n at*;clear hd hq ho zj zf zE zz HD;go_upto_region 4 with fail
  rw[<-zy];clear zy zd y0 y1 y2 zv zw zC zl zu;go_wp2_with fail
  refine KA.mono ?_;rintro e w5 ⟨v,rfl,hv,ze⟩;have zp:=DY (Qb zL ze);have zo:=Qe zF ze;have HV:=DY hv;obtain⟨vt,vx,rfl⟩:=hv.form;clear KA hv ze z1 z2;go_wp2_with (refine Ql rfl 28 _ _ rfl w.heap.size Zh rfl rfl Zh 28 zo rfl za z8 ?_;intro w6 h6 zg hs6)
  refine bodyPost_ret (v:= .tuple #[.agg Zh, .iface vt vx]) (Qw (p:=4) (u:=5) rfl _ _ w.heap.size 28 _ _ _ rfl h6 underlying28 rfl za) rfl ?_;exact⟨zp.out.grown zg zp.out.size (fun k hk=>by cases hk;exact Na _), .inr ⟨HQ.out,_,rfl,(HV.out.grown zo (by decide) zg).more zg.size⟩⟩
end Go.Proofs.YtijcgllddnpmhaaGreatDoor
