/- TopSound: lemmas, part 23. -/
import Derived.Test.YtijcgllddnpmhaaGreatDoorTopSoundT22
set_option maxRecDepth 100000
set_option maxHeartbeats 16000000
set_option linter.all false
namespace Go.Proofs.YtijcgllddnpmhaaGreatDoor
open Go.RowKit Go.Proofs.Tryz
section
variable {bs:List UInt8} {tree fuel:Int} {q:WkS} {no lo hi:Int} {d:Nat}
theorem visit_dry(h:fuel<=q.st.looked):Zx bs tree fuel d q.way no lo hi q.st={q.st with bad:=true,dry:=true}:=by
 cases d<;>(unfold Zx;rw[if_pos h])
theorem visit_none(h:¬fuel<=q.st.looked)(hd:q.way.length+d=16)(hl:Xt bs tree q no lo hi=none):Zx bs tree fuel d q.way no lo hi q.st=q.st.see.fail:=by
 cases d with
 |zero=>unfold Zx;rw[if_neg h]
 |succ d=>
  unfold Zx;rw[if_neg h];unfold Xt at hl;by_cases h1:no∈q.way
  ·rw[if_pos h1]
  ·rw[if_neg h1] at hl ⊢;rw[if_neg (by omega)] at hl;cases hn:ZD bs no tree with
   |none=>rfl
   |some n=>
    rw[hn] at hl;dsimp only at hl ⊢;by_cases h2:Z0 lo hi n.keys=false
    ·rw[if_pos h2]
    ·rw[if_neg h2] at hl ⊢;by_cases h3:n.leaf=true/\q.st.deep≠0/\q.st.deep≠(q.way.length:Int)+1
     ·rw[if_pos h3.1,if_pos h3.2]
     ·rw[if_neg h3] at hl;cases hl
theorem Ka{n:QF}(hl:Xt bs tree q no lo hi=some n):ZD bs no tree=some n/\Z0 lo hi n.keys=true/\¬no∈q.way/\q.way.length<16/\(n.leaf=true->¬(q.st.deep≠0/\q.st.deep≠(q.way.length:Int)+1)):=by
 unfold Xt at hl;by_cases h1:no∈q.way
 ·rw[if_pos h1] at hl;cases hl
 ·rw[if_neg h1] at hl;by_cases h16:16<=q.way.length
  ·rw[if_pos h16] at hl;cases hl
  ·rw[if_neg h16] at hl;cases hn:ZD bs no tree with
   |none=>rw[hn] at hl;cases hl
   |some n'=>
    rw[hn] at hl;dsimp only at hl;cases h2:Z0 lo hi n'.keys with
    |false=>rw[if_pos h2] at hl;cases hl
    |true=>
     rw[if_neg (by rw[h2];decide)] at hl;by_cases h3:n'.leaf=true/\q.st.deep≠0/\q.st.deep≠(q.way.length:Int)+1
     ·rw[if_pos h3] at hl;cases hl
     ·rw[if_neg h3] at hl
      injection hl with hl
      subst hl;exact⟨rfl,h2,h1,by omega,fun hlf hx=>h3 ⟨hlf,hx⟩⟩
theorem visit_leaf{n:QF}(h:¬fuel<=q.st.looked)(hl:Xt bs tree q no lo hi=some n)(hlf:n.leaf=true):
  Zx bs tree fuel (d+1) q.way no lo hi q.st={q.st.see with deep:=(q.way.length:Int)+1,ents:=q.st.ents++Zw no n.keys n.vals}:=by
 obtain⟨h1,h2,h3,_,h5⟩:=Ka hl;unfold Zx;rw[if_neg h,if_neg h3,h1];dsimp only;rw[if_neg (by rw[h2];decide),if_pos hlf,if_neg (h5 hlf)]
theorem visit_inner{n:QF}(h:¬fuel<=q.st.looked)(hl:Xt bs tree q no lo hi=some n)(hlf:n.leaf=false):
  Zx bs tree fuel (d+1) q.way no lo hi q.st=Yl (Zx bs tree fuel d (q.way++[no])) n.vals (Xh hi n.keys) q.st.see:=by
 obtain⟨h1,h2,h3,_,_⟩:=Ka hl;unfold Zx;rw[if_neg h,if_neg h3,h1];dsimp only;rw[if_neg (by rw[h2];decide),if_neg (by rw[hlf];decide)]
end
def kid1(f:Int->Int->Int->WS->WS)(v:List UInt8)(p:Int×Int)(s:WS):WS:=if rdE [QB] v=0 then f (rd1 QB v) p.1 p.2 s else s.fail
theorem kids_drop{f:Int->Int->Int->WS->WS}{vs:List (List UInt8)}{ss:List (Int×Int)}{k:Nat}(h1:k<vs.length)(h2:k<ss.length)(s:WS):
  Yl f (vs.drop k) (ss.drop k) s=if(kid1 f (vs.getD k []) (ss.getD k (0,0)) s).dry=true then kid1 f (vs.getD k []) (ss.getD k (0,0)) s else Yl f (vs.drop (k+1)) (ss.drop (k+1)) (kid1 f (vs.getD k []) (ss.getD k (0,0)) s):=by
 rw[NO h1,NO h2];have e1:vs.getD k []=vs[k]:=by simp[D9,D1 h1]
 have e2:ss.getD k (0,0)=ss[k]:=by simp[D9,D1 h2]
 rw[e1,e2]
 rfl
theorem kids_end{f:Int->Int->Int->WS->WS}{vs:List (List UInt8)}{ss:List (Int×Int)}{k:Nat}(h1:vs.length<=k)(s:WS):Yl f (vs.drop k) (ss.drop k) s=s:=by
 rw[Lh h1]
 rfl
theorem WkK.row{base base2 n s:Nat}{w w':World}{e:TypeId}{v:Value}{xs:List Value}(h:WkK base w w')(ho:w.ownsRow base2 e s v n xs)(h1:e≠326)(h2:e≠146)(h3:e≠3)(h4:e≠32):w'.ownsRow base2 e s v n xs:=by
 refine⟨ho.1,?_⟩;rcases ho.2 with hn|⟨g,z1,z0,hv,hg,z2,r⟩
 ·exact .inl hn
 ·exact .inr ⟨g,z1,z0,hv,hg,h.2 g _ _ _ z2 h1 h2 h3 h4,r⟩
theorem Vd{bs:List UInt8}{no tree:Int}{n:QF}(h:ZD bs no tree=some n):n.vals.length=n.keys.length/\n.keys.length<=18/\∀v∈n.vals,v.length<=24:=by
 unfold ZD at h;cases hp:OC bs no 2 with
 |none=>rw[hp] at h;cases h
 |some p=>
  rw[hp] at h;replace h:U8 tree p=some n:=h;unfold U8 at h;by_cases h0:XZ p=0
  ·rw[if_pos h0] at h
   split at h
   ·cases h
   ·injection h with h
    subst h;have hf:Vk p=true:=by
     unfold XZ at h0;by_cases hf:Vk p=true
     ·exact hf
     ·rw[if_neg hf] at h0;cases h0
    have hs:ZX p=true:=by
     unfold Vk at hf;exact(of_decide_eq_true hf).1
    obtain⟨g1,g2,g3,g4,g5,g6,g7,g8⟩:=Ec hs;unfold YW;rw[if_pos h0];refine⟨by simp[Z5,Vh,JL],by simp[Z5,Vh];omega,fun v hv=>?_⟩
    simp only[Z5,JL,List.mem_map,LR] at hv;obtain⟨i,_,rfl⟩:=hv;unfold vN;rw[Ni];omega
  ·rw[if_neg h0] at h;cases h
def Q1(cs:List Int):Nat:=cs.countP fun x=>x==0
theorem Uq:∀(cs:List Int) (k:Nat),k<cs.length->cs=cs.take k++cs.getD k 0::cs.drop (k+1)
 |[],k,h=>by simp at h
 |x::r,0,_=>by simp
 |x::r,k+1,h=>by
  have:=Uq r k (by simpa using h);simp only[List.take_succ_cons,List.drop_succ_cons,NH];rw[show(x::r).getD (k+1) 0=r.getD k 0 by simp]
  rw[<-this]
theorem set_to(cs:List Int)(k:Nat)(h:k<cs.length)(v:Int):cs.set k v=cs.take k++v::cs.drop (k+1):=by
 rw[List.set_eq_take_append_cons_drop,if_pos h]
theorem E6(cs:List Int)(k:Nat)(h:k<cs.length):(cs.set k (cs.getD k 0+1)).sum=cs.sum+1:=by
 rw[set_to cs k h]
 conv=>rhs;rw[Uq cs k h]
 simp only[LJ,Lu];omega
theorem GY(cs:List Int)(k:Nat)(h:k<cs.length)(hz:cs.getD k 0≠0)(h0:0<=cs.getD k 0):Q1 (cs.set k (cs.getD k 0+1))=Q1 cs:=by
 unfold Q1;rw[set_to cs k h]
 conv=>rhs;rw[Uq cs k h]
 simp only[List.countP_append,List.countP_cons];rw[if_neg (by rw[beq_iff_eq];omega),if_neg (by rw[beq_iff_eq];exact hz)]
theorem UZ(cs:List Int)(k:Nat)(h:k<cs.length)(hz:cs.getD k 0=0):Q1 (cs.set k (cs.getD k 0+1))+1=Q1 cs:=by
 unfold Q1;rw[set_to cs k h]
 conv=>rhs;rw[Uq cs k h]
 simp only[List.countP_append,List.countP_cons];rw[hz,if_neg (by decide),if_pos (by decide)];omega
theorem RM{cs:List Int}(h:∀x∈cs,0<=x)(k:Nat):∀x∈cs.set k (cs.getD k 0+1),0<=x:=by
 intro x hx;rcases List.mem_or_eq_of_mem_set hx with hx|rfl
 ·exact h x hx
 ·have:0<=cs.getD k 0:=by
   rcases NC k cs.length with hk|hk
   ·rw[D9,D1 hk];exact h _ (Nm hk)
   ·rw[D9,NI hk]
    decide
  omega
def Okc(N:Int)(cs:List Int):Prop:=(∀x∈cs,0<=x)/\cs.sum+18*(Q1 cs:Int)<=N
theorem Okc.up{N M:Int}{cs:List Int}(h:Okc N cs)(hM:N<=M):Okc M cs:=⟨h.1,by have:=h.2;omega⟩
theorem R7:∀{cs:List Int},(∀x∈cs,0<=x)->∀x∈cs,x<=cs.sum
 |[],_,x,h=>by cases h
 |y::r,h0,x,h=>by
  have hr:∀x∈r,0<=x:=fun z hz=>h0 z (NA _ hz)
  have hs:0<=r.sum:=by
   clear h;induction r with
   |nil=>simp
   |cons a r ih=>
    have h1:=hr a (by simp);have h2:=ih (fun z hz=>h0 z (by rcases Nt.1 hz with rfl|hz;simp;simp[hz])) (fun z hz=>hr z (NA _ hz));simp only[Lu];omega
  rw[Lu];rcases Nt.1 h with rfl|h
  ·omega
  ·have h1:=R7 hr x h;have h2:=h0 y (by simp);omega
theorem Okc.le{N:Int}{cs:List Int}(h:Okc N cs):∀x∈cs,0<=x/\x<=N:=fun x hx=>⟨h.1 x hx,by
 have:=R7 h.1 x hx;have:=h.2;omega⟩
theorem Okc.add{N:Int}{cs:List Int}(h:Okc N cs){k:Nat}(hk:k<cs.length)(hz:cs.getD k 0≠0):Okc (N+1) (cs.set k (cs.getD k 0+1)):=by
 have h0:0<=cs.getD k 0:=by
  rw[D9,D1 hk];exact h.1 _ (Nm hk)
 refine⟨RM h.1 k,?_⟩;rw[E6 cs k hk,GY cs k hk hz h0];have:=h.2;omega
theorem Okc.first{N:Int}{cs:List Int}(h:Okc N cs){k:Nat}(hk:k<cs.length)(hz:cs.getD k 0=0):Okc (N+1-18) (cs.set k (cs.getD k 0+1)):=by
 refine⟨RM h.1 k,?_⟩;rw[E6 cs k hk];have:=UZ cs k hk hz;have:=h.2;omega
theorem Gn{α:Type}{f:α->List Int->Option (List Int)}{z:Nat}(hf:∀x cs cs' N,f x cs=some cs'->Okc N cs->Q1 cs<=z->Okc (N+1) cs'/\cs'.length=cs.length/\Q1 cs'<=Q1 cs):
  ∀(l:List α) (cs cs':List Int) (N:Int),Xg f l cs=some cs'->Okc N cs->Q1 cs<=z->Okc (N+l.length) cs'/\cs'.length=cs.length/\Q1 cs'<=Q1 cs
 |[],cs,cs',N,h,ho,hz=>by
  cases h;exact⟨by simpa using ho,rfl,Na _⟩
 |x::r,cs,cs',N,h,ho,hz=>by
  unfold Xg at h;cases hx:f x cs with
  |none=>rw[hx] at h;cases h
  |some c1=>
   rw[hx] at h;replace h:Xg f r c1=some cs':=h;obtain⟨a1,a2,a3⟩:=hf x cs c1 N hx ho hz;obtain⟨b1,b2,b3⟩:=Gn hf r c1 cs' (N+1) h a1 (D3 a3 hz);refine⟨b1.up ?_,b2.trans a2,D3 b3 a3⟩;simp only[List.length_cons];omega
theorem Uc{bs:List UInt8}{no:Int}{l:List S3}(h:Zs bs no=some l):l.length<=15:=by
 unfold Zs at h;cases hp:OC bs no 4 with
 |none=>rw[hp] at h;cases h
 |some p=>
  rw[hp] at h;replace h:Jp p=some l:=h;unfold Jp at h
  split at h
  ·rename_i h1
   cases h;unfold O6;rw[if_pos h1];unfold JU at h1
   split at h1
   ·rename_i h2
    unfold UT at h2;rw[Nu,Nu,decide_eq_true_iff,decide_eq_true_iff] at h2;simpa[UP] using h2.2.1
   ·cases h1
  ·cases h
def Vo(refer:Int×Int->List Int->Option (List Int))(n:QF)(v:List UInt8)(cs:List Int):Option (List Int):=
 (Oy n v).bind fun q=>match q with|none=>some cs|some r=>refer r cs
theorem has_okc{bs:List UInt8}{refer:Int×Int->List Int->Option (List Int)}{z:Nat}(hf:∀r cs cs' N,refer r cs=some cs'->Okc N cs->Q1 cs<=z->Okc (N+1) cs'/\cs'.length=cs.length/\Q1 cs'<=Q1 cs)
  (no as_:Int) (cs cs':List Int) (N:Int) (h:Ud bs refer no as_ cs=some cs') (ho:Okc N cs) (hz:Q1 cs<=z):Okc (N+18) cs'/\cs'.length=cs.length/\Q1 cs'<=Q1 cs:=by
 unfold Ud at h
 split at h
 ·cases hi:Zs bs no with
  |none=>rw[hi] at h;cases h
  |some l=>
   rw[hi] at h;replace h:Xg (fun s:S3=>refer (s.1,-2)) l cs=some cs':=h;obtain⟨a,b,c⟩:=Gn (fun x cs cs' N=>hf (x.1,-2) cs cs' N) l cs cs' N h ho hz;have:=Uc hi;exact⟨a.up (by omega),b,c⟩
 ·split at h
  ·cases hb:ZV bs no with
   |none=>rw[hb] at h;cases h
   |some l=>
    rw[hb] at h;cases h;exact⟨ho.up (by omega),rfl,Na _⟩
  ·cases hn:ZD bs no as_ with
   |none=>rw[hn] at h;cases h
   |some n=>
    rw[hn] at h;replace h:Xg (Vo refer n) n.vals cs=some cs':=h;have hs:=Vd hn;obtain⟨a,b,c⟩:=Gn (f:=Vo refer n) (z:=z) (fun v cs cs' N h ho hz=>by
     unfold Vo at h;cases hr:Oy n v with
     |none=>rw[hr] at h;cases h
     |some q=>
      rw[hr] at h;cases q with
      |none=>
       cases h;exact⟨ho.up (by omega),rfl,Na _⟩
      |some r=>exact hf r cs cs' N h ho hz) n.vals cs cs' N h ho hz
    exact⟨a.up (by omega),b,c⟩
theorem Us{bs:List UInt8}:∀(d:Nat) (r:Int×Int) (cs cs':List Int) (N:Int),QJ bs d r cs=some cs'->Okc N cs->Okc (N+1) cs'/\cs'.length=cs.length/\Q1 cs'<=Q1 cs
 |0,_,_,_,_,h,_=>by cases h
 |d+1,r,cs,cs',N,h,ho=>by
  unfold QJ at h
  split at h
  ·rename_i hr
   have hk:r.1.toNat<cs.length:=by omega
   split at h
   ·rename_i hz
    cases h;have h0:0<=cs.getD r.1.toNat 0:=by
     rw[D9,D1 hk];exact ho.1 _ (Nm hk)
    exact⟨ho.add hk hz,by simp,Nat.le_of_eq (GY cs _ hk hz h0)⟩
   ·rename_i hz
    have hz:cs.getD r.1.toNat 0=0:=by simpa using hz
    have h1:=ho.first hk hz
    have h2:=UZ cs _ hk hz;obtain⟨a,b,c⟩:=has_okc (z:=Q1 (cs.set r.1.toNat (cs.getD r.1.toNat 0+1))) (fun r cs cs' N h ho _=>Us d r cs cs' N h ho) r.1 r.2 _ cs' _ h h1 (Na _);exact⟨a.up (by omega),by rw[b];simp,by omega⟩
  ·cases h
theorem val_okc{bs:List UInt8}{d:Nat}{n:QF}{v:List UInt8}{cs cs':List Int}{N:Int}(h:Vo (QJ bs d) n v cs=some cs')(ho:Okc N cs):Okc (N+1) cs'/\Q1 cs'<=Q1 cs:=by
 unfold Vo at h;cases hr:Oy n v with
 |none=>rw[hr] at h;cases h
 |some q=>
  rw[hr] at h;cases q with
  |none=>
   cases h;exact⟨ho.up (by omega),Na _⟩
  |some r=>
   obtain⟨a,b,c⟩:=Us d r cs cs' N h ho;exact⟨a,c⟩
theorem EX{w:World}{base m:Nat}{bs:List UInt8}(h:ZH w base m bs)(no:Int):
  Calls prog 193 #[.pointer (some ⟨m,0,none⟩), .int .i64 no] w (DO 3 1 ((ZV bs no).map iv) w):=by
 obtain⟨B,A,c,h1,-⟩:=h;have k:=readB_any h1 no;generalize (ZV bs no).map iv=q at*;clear h1;go_enter func193,ntmps193
 go_wp2_with fail
 refine k.mono ?_;rintro e w2 ⟨⟨l,A2,n,c2,hq,rfl,hl,hc,ho⟩|⟨hq,v,rfl,hv⟩,hb⟩
 ·have H:=DY (DZ hq (DZ hl (DZ hc ho)));clear hq hl hc ho k;go_wp2;go_ret2
  exact⟨.inl ⟨l,A2,n,c2,H.out.1,rfl,H.out.2.1,H.out.2.2.1,H.out.2.2.2⟩,hb⟩
 ·have H:=DY (DZ hq hv);clear hq hv k;go_wp2;go_ret2
  exact⟨.inr ⟨H.out.1,v,rfl,H.out.2⟩,hb⟩
theorem GB{w:World}{base m:Nat}{bs:List UInt8}(h:ZH w base m bs)(no:Int):
  Calls prog 73 #[.pointer (some ⟨m,0,none⟩), .int .i64 no] w (DO 148 3 ((Zs bs no).map tv) w):=by
 obtain⟨B,A,c,h1,-⟩:=h;have k:=readS_any h1 no;generalize (Zs bs no).map tv=q at*;clear h1;go_enter func73,ntmps73
 go_wp2_with fail
 refine k.mono ?_;rintro e w2 ⟨⟨l,A2,n,c2,hq,rfl,hl,hc,ho⟩|⟨hq,v,rfl,hv⟩,hb⟩
 ·have H:=DY (DZ hq (DZ hl (DZ hc ho)));clear hq hl hc ho k;go_wp2;go_ret2
  exact⟨.inl ⟨l,A2,n,c2,H.out.1,rfl,H.out.2.1,H.out.2.2.1,H.out.2.2.2⟩,hb⟩
 ·have H:=DY (DZ hq hv);clear hq hv k;go_wp2;go_ret2
  exact⟨.inr ⟨H.out.1,v,rfl,H.out.2⟩,hb⟩
theorem QC{w w2 w3:World}{r:Option Nat}(h:w.grownBy w2 r)(k:w2.grownBy w3 r):w.grownBy w3 r:=
 ⟨k.os.trans h.os,k.tape.trans h.tape,k.output.trans h.output,D3 h.size k.size,fun j hj hr=>(k.block j (Nh hj h.size) hr).trans (h.block j hj hr)⟩
theorem Qz{w w2:World}(h:Below w.heap.size w w2)(r:Option Nat):w.grownBy w2 r:=⟨h.os,h.tape,h.output,h.size,fun j hj _=>h.block j hj⟩
structure Rch(w:World)(base g m gc n:Nat)(A:Option Addr)(c:Nat)(bs:List UInt8)(cs:List Int):Prop where
 len:cs.length=n
 bx:w.heap[g]?=some (.cells #[.pointer (some ⟨m,0,none⟩), .pointer (some ⟨gc,0,none⟩)] 165)
 im:ZH w base m bs
 cn:∃B0,Cnt w B0 gc A c cs
theorem ZH.grown{w w':World}{base base2 m n:Nat}{A:Option Addr}{c:Nat}{bs:List UInt8}{xs:List Value}(h:ZH w base m bs)(ho:w.ownsRow base2 3 1 (.slice A n c) n xs)(hg:w.grownBy w' (Value.slice A n c).ownBlock):ZH w' base m bs:=by
 obtain⟨B,A2,c2,h,hm,hk⟩:=h;exact⟨B,A2,c2,h.kept hg (fun e=>h.1.not_row (by decide) ho e.symm) (Zk h.2.1 ho (by decide)),hm,hk⟩
section
variable {w w':World} {base g m gc n:Nat} {A:Option Addr} {c:Nat} {bs:List UInt8} {cs cs':List Int}
theorem Rch.below(h:Rch w base g m gc n A c bs cs)(hb:Below w.heap.size w w')(hbs:base<=w.heap.size):Rch w' base g m gc n A c bs cs:=by
 obtain⟨B0,h1⟩:=h.cn;exact⟨h.len,Qe h.bx hb,h.im.below (hb.mono hbs),B0,h1.below hb⟩
theorem Rch.added(h:Rch w base g m gc n A c bs cs){B0:Nat}(hc:Cnt w' B0 gc A c cs')(hl:cs'.length=n)(hg:w.grownBy w' (Value.slice A n c).ownBlock):Rch w' base g m gc n A c bs cs':=by
 obtain⟨B1,h1⟩:=h.cn;have hn:=h.len;subst hn;refine⟨hl,?_,h.im.grown h1.2.1 hg,B0,hc⟩;have z0:=Qi h.bx (by decide) h1.2.1;have:=(D0.1 h.bx).1;exact(hg.block g this (fun e=>z0 e)).trans h.bx
end
def Vm(l:List Qv):Prop:=∀e∈l,e.val.length<=24
theorem UR(no:Int):∀(ks:List Int) (vs:List (List UInt8)),(∀v∈vs,v.length<=24)->Vm (Zw no ks vs)
 |[],vs,_=>by intro e he;unfold Zw at he;cases he
 |k::ks,[],_=>by intro e he;unfold Zw at he;cases he
 |k::ks,v::vs,h=>by
  intro e he;unfold Zw at he;rcases Nt.1 he with rfl|he
  ·exact h v (by simp)
  ·exact UR no ks vs (fun x hx=>h x (NA _ hx)) e he
theorem EC{f:Int->Int->Int->WS->WS}(hf:∀no lo hi s,Vm s.ents->Vm (f no lo hi s).ents):∀(vs:List (List UInt8)) (ss:List (Int×Int)) (s:WS),Vm s.ents->Vm (Yl f vs ss s).ents
 |[],[],s,h=>by unfold Yl;exact h
 |[],_::_,s,h=>by unfold Yl;exact h
 |_::_,[],s,h=>by unfold Yl;exact h
 |v::vs,(lo,hi)::ss,s,h=>by
  have ht:Vm (if rdE [QB] v=0 then f (rd1 QB v) lo hi s else s.fail).ents:=by
   split
   ·exact hf _ _ _ _ h
   ·exact h
  unfold Yl;dsimp only;generalize (if rdE [QB] v=0 then f (rd1 QB v) lo hi s else s.fail)=t at*
  split
  ·exact ht
  ·exact EC hf vs ss t ht
theorem Rv(bs:List UInt8)(tree fuel:Int):∀(d:Nat) (way:List Int) (no lo hi:Int) (s:WS),Vm s.ents->Vm (Zx bs tree fuel d way no lo hi s).ents
 |0,way,no,lo,hi,s,h=>by
  unfold Zx
  split<;>exact h
 |d+1,way,no,lo,hi,s,h=>by
  unfold Zx
  split
  ·exact h
  ·split
   ·exact h
   ·split
    ·exact h
    ·rename_i n hn
     split
     ·exact h
     ·split
      ·split
       ·exact h
       ·intro e he;rcases NY.1 he with he|he
        ·exact h e he
        ·exact UR no n.keys n.vals (Vd hn).2.2 e he
      ·exact EC (fun no lo hi s h=>Rv bs tree fuel d _ no lo hi s h) n.vals _ s.see h
theorem Ur(bs:List UInt8)(root tree fuel:Int):Vm (QP bs root tree fuel).ents:=Rv bs tree fuel 16 [] root 0 281474976710656 ws0 (by intro e he;cases he)
theorem Jj(bs:List UInt8)(root tree fuel:Int)(k:Nat)(h:k<(QP bs root tree fuel).ents.length):(Lit.int .i64 (Zr (QP bs root tree fuel).ents k)).wf=true/\(YN (QP bs root tree fuel).ents k).length<=reachBytes:=by
 have h1:=(Xo bs root tree fuel).2;have h2:=Ur bs root tree fuel;generalize (QP bs root tree fuel).ents=l at*;have hm:=Nm h;have h3:=h1 l[k].key (Lc hm);have h4:=h2 l[k] hm;unfold Zr YN;rw[D9,D1 h];refine⟨?_,by simp only[reachBytes,N8];omega⟩
 simp[Lit.wf,IntKind.min,IntKind.max,IntKind.bits,IntKind.signed];omega
def Zb:Array Value:=QQ fun _=>0
def VD(q:Option (Nat->Int))(w:World)(e:Ending)(w':World):Prop:=
 ((∃s,q=some s/\e= .returned (.tuple #[.agg (QQ s), .nilIface]))∨
  (q=none/\∃v,e= .returned (.tuple #[.agg Zb,v])/\Qy 1 w' w'.heap.size v))/\Below w.heap.size w w'
theorem VD.err{q:Option (Nat->Int)}{w w3 w':World}{v:Value}{cs:Array Value}(hq:q=none)(hv:Qy 1 w3 w3.heap.size v)(hB:Below w.heap.size w w3)(hK:w3.heap[w.heap.size]?=some (.cells cs 65))(hg:w3.grownBy w' (some w.heap.size)):
  VD q w (.returned (.tuple #[.agg Zb,v])) w':=
 ⟨.inr ⟨hq,v,rfl,(hv.grown hK (by decide) hg).more hg.size⟩,hB.grown hg hB.size (fun k hk=>by cases hk;exact Na _)⟩
theorem readSp_any{w:World}{B g:Nat}{A:Option Addr}{c:Nat}{bs:List UInt8}(h:Img w B g A c bs)(p:Addr)(hp:w.cell? p=some (.pointer (some ⟨g,0,none⟩))):
  Calls prog 83 #[.pointer (some ⟨g,0,none⟩), .int .i64 0, .int .i64 1, .func (.func 84) #[] #[.pointer (some p)]] w (VD (QZ bs) w):=by
 obtain⟨w1,zh,ze,-⟩:=DT w (.cells #[.int .i64 0, .int .i64 0, .int .i64 0, .int .i64 0, .int .i64 0, .int .i64 0, .int .i64 0, .int .i64 0, .int .i64 0, .int .i64 0, .int .i64 0] 65) (.cells #[.int .i64 0, .int .i64 0, .int .i64 0, .int .i64 0, .int .i64 0, .int .i64 0, .int .i64 0, .int .i64 0, .int .i64 0, .int .i64 0, .int .i64 0] 65);have zw:w1.heap[w.heap.size]?=some (.cells Zb 65):=by rw[zh];exact Qj (heap_alloc_new w _) _
 have zI:w1.heap[w.heap.size+1]?=some (.cells Zb 65):=by
  rw[zh,show w.heap.size+1=(w.alloc (.cells #[.int .i64 0, .int .i64 0, .int .i64 0, .int .i64 0, .int .i64 0, .int .i64 0, .int .i64 0, .int .i64 0, .int .i64 0, .int .i64 0, .int .i64 0] 65)).heap.size by simp]
  exact heap_alloc_new _ _
 have h1:=Uw (h.below ze) 0;have HT:=DY (fun n (hn:n≠0) V=>UD 0 n hn V);have zp:=DY ze;have zx:=DY (h.below ze);have zF:=DY zw;have zE:=DY zI;have HP:=DY (Qg ze hp);have z5:(prog.info? 65).map (·.size)=some Zb.size:=ZJ fun _=>0
 have z6:∀v∈Zb.toList,v.oneCell'=true:=ZP fun _=>0
 clear h hp ze zw zI;go_enter func83,ntmps83
 go_upto_region 2 with fail
 rw[show(w.alloc (.cells #[.int .i64 0, .int .i64 0, .int .i64 0, .int .i64 0, .int .i64 0, .int .i64 0, .int .i64 0, .int .i64 0, .int .i64 0, .int .i64 0, .int .i64 0] 65)).alloc (.cells #[.int .i64 0, .int .i64 0, .int .i64 0, .int .i64 0, .int .i64 0, .int .i64 0, .int .i64 0, .int .i64 0, .int .i64 0, .int .i64 0, .int .i64 0] 65)=w1 from zh.symm]
 clear zh;go_wp2_with fail
 refine h1.mono ?_;rintro e w2 ⟨A1,c1,rfl,z3,za⟩;have zi:=DY (Qb zp za);have zz:=DY (zx.out.below za);have zn:=DY (Qe zF za);have zr:=DY (Qe zE za);have zA:=DY (Qg za HP);clear h1 zF zE HP zx;by_cases he:Y0 bs.length 0=0
 case neg=>
  have HN:=DY (show QZ bs=none by unfold QZ;rw[OA (no:=0) 1 he];rfl);have k:=fun V=>HT.out _ he V
  have d1:(Y0 bs.length 0 !=0)=true:=by rw[bne_iff_ne];exact he
  generalize Y0 bs.length 0=er at*;generalize Y1 bs 0=pb at*;clear he z3 za HT zp;have zg:=zn.out;have z1:=zr.out;have zf:w.heap.size+1≠w.heap.size:=by omega
  go_upto_region 4 with fail
  refine wp_region_held_drew (S:=(fun V:World=>V.cell? ⟨w.heap.size+1,0,none⟩=some (.int .i64 0)/\V.cell? ⟨w.heap.size+1,1,none⟩=some (.int .i64 0)/\V.cell? ⟨w.heap.size+1,2,none⟩=some (.int .i64 0)/\V.cell? ⟨w.heap.size+1,3,none⟩=some (.int .i64 0)/\V.cell? ⟨w.heap.size+1,4,none⟩=some (.int .i64 0)/\V.cell? ⟨w.heap.size+1,5,none⟩=some (.int .i64 0)/\V.cell? ⟨w.heap.size+1,6,none⟩=some (.int .i64 0)/\V.cell? ⟨w.heap.size+1,7,none⟩=some (.int .i64 0)/\V.cell? ⟨w.heap.size+1,8,none⟩=some (.int .i64 0)/\V.cell? ⟨w.heap.size+1,9,none⟩=some (.int .i64 0)/\V.cell? ⟨w.heap.size+1,10,none⟩=some (.int .i64 0))) (by kernel_rfl) ?_ (fun hHeld=>?_)
  (focus((try dsimp only);(first|exact⟨Qa z1 0 rfl,Qa z1 1 rfl,Qa z1 2 rfl,Qa z1 3 rfl,Qa z1 4 rfl,Qa z1 5 rfl,Qa z1 6 rfl,Qa z1 7 rfl,Qa z1 8 rfl,Qa z1 9 rfl,Qa z1 10 rfl⟩|exact⟨Qa z0 0 rfl,Qa z0 1 rfl,Qa z0 2 rfl,Qa z0 3 rfl,Qa z0 4 rfl,Qa z0 5 rfl,Qa z0 6 rfl,Qa z0 7 rfl,Qa z0 8 rfl,Qa z0 9 rfl,Qa z0 10 rfl⟩|exact⟨Qa z2 0 rfl,Qa z2 1 rfl,Qa z2 2 rfl,Qa z2 3 rfl,Qa z2 4 rfl,Qa z2 5 rfl,Qa z2 6 rfl,Qa z2 7 rfl,Qa z2 8 rfl,Qa z2 9 rfl,Qa z2 10 rfl⟩|assumption)))
  refine QD (.f 0 (.f 1 (.f 2 (.f 3 (.o 4 (.r 5 (.f 6 .e))))))) ?_
  repeat' ((first|(refine QL (v:=?_) (hv:=?_) (h:=?_);rotate_left;(focus(first|(refine .inr ⟨by rfl,?_⟩;rfl)|(refine .inl ⟨by rfl,?_⟩;intro w hSw;(try dsimp only at hSw);(try simp only[D8,D4,D5]);go_simp;try(with_reducible rfl)))))|(refine Qr (h:=?_))|((first|((refine Qx (h:=fun K hK=>?_))<;>((try simp only[D8,D4,D5]);go_simp))|(refine Q0 (h:=fun K hK=>?_)))<;>((first|(go_at_call 149;refine(k _).mono ?_;rintro e w9 ⟨v,rfl,hv,z4⟩;replace z4:Below w2.heap.size w2 w9:=Jg z4;have HV:=DY hv;have zd:=DY (Qb zi.out z4);have z9:=Qe zg z4;have z0:=Qe z1 z4;clear hv z4)|(refine Q2 65 (.tmp 8) (.tmp 23) rfl w.heap.size Zb rfl rfl Zb 65 z9 rfl z5 z6 ?_;intro W4 h4 z8 zG;have z2:W4.heap[w.heap.size+1]?=some (.cells Zb 65):=(z8.block _ (D0.1 z0).1 (fun e=>zf (Nd e))).trans z0));refine hK.out _ _ ?_ (fun hHeld=>?_);(focus((try dsimp only);(first|exact⟨Qa z1 0 rfl,Qa z1 1 rfl,Qa z1 2 rfl,Qa z1 3 rfl,Qa z1 4 rfl,Qa z1 5 rfl,Qa z1 6 rfl,Qa z1 7 rfl,Qa z1 8 rfl,Qa z1 9 rfl,Qa z1 10 rfl⟩|exact⟨Qa z0 0 rfl,Qa z0 1 rfl,Qa z0 2 rfl,Qa z0 3 rfl,Qa z0 4 rfl,Qa z0 5 rfl,Qa z0 6 rfl,Qa z0 7 rfl,Qa z0 8 rfl,Qa z0 9 rfl,Qa z0 10 rfl⟩|exact⟨Qa z2 0 rfl,Qa z2 1 rfl,Qa z2 2 rfl,Qa z2 3 rfl,Qa z2 4 rfl,Qa z2 5 rfl,Qa z2 6 rfl,Qa z2 7 rfl,Qa z2 8 rfl,Qa z2 9 rfl,Qa z2 10 rfl⟩|assumption)));clear hK K)))<;>(try simp only[Act.put,Nc,Nf,Ng]))
  all_goals (refine Qu ?_;refine wpAnyH_done (by kernel_rfl) ?_ _)
  all_goals (go_wp2;(try simp only[Exit.inBlock,Exit.then]);refine bodyPost_ret (v:= .tuple #[.agg Zb,v]) (Qw (p:=8) (u:=9) rfl _ _ w.heap.size 65 Zb _ _ rfl h4 underlying65 rfl z5) rfl ?_;exact VD.err HN HV zd z9 z8)
 have hl:=OK he;have ho:=OF A1 c1 (Y1 bs 0) 1 0 w2 (by have:=Xy z3;rwa[Qm] at this) (Qh.of_own z3);have zq:=DY (fun h2=>OB (bs:=bs) (no:=0) (k:=1) he h2);have zu:=DY (fun h2=>Rh (bs:=bs) (no:=0) (k:=1) he h2);rw[Qm,hl] at z3 ⊢;rw[hl] at ho;rw[he];clear he z3 za hl zp;generalize Y1 bs 0=pb at*;go_wp2_with fail
 refine ho.mono ?_;rintro e w3 ⟨A2,c2,rfl,z3,zb⟩;have zv:=DY (Qb zi zb);have zC:=DY (zz.out.below zb);have zs:=DY (Qe zn zb);have zt:=DY (Qe zr zb);have zH:=DY (Qg zb zA);clear ho zn zr zA zz zb;by_cases he:ZA pb 1 0=0
 case neg=>
  have HN:=DY (show QZ bs=none by unfold QZ;rw[zq.out he];rfl);have k:=fun V=>HT.out _ he V
  have d1:(ZA pb 1 0 !=0)=true:=by rw[bne_iff_ne];exact he
  generalize ZA pb 1 0=er at*;generalize XM pb 1 0=q at*;clear he z3 HT zi zq zu;have zg:=zs.out;have z1:=zt.out;have zf:w.heap.size+1≠w.heap.size:=by omega
  go_upto_region 7 with fail
  refine wp_region_held_drew (S:=(fun V:World=>V.cell? ⟨w.heap.size+1,0,none⟩=some (.int .i64 0)/\V.cell? ⟨w.heap.size+1,1,none⟩=some (.int .i64 0)/\V.cell? ⟨w.heap.size+1,2,none⟩=some (.int .i64 0)/\V.cell? ⟨w.heap.size+1,3,none⟩=some (.int .i64 0)/\V.cell? ⟨w.heap.size+1,4,none⟩=some (.int .i64 0)/\V.cell? ⟨w.heap.size+1,5,none⟩=some (.int .i64 0)/\V.cell? ⟨w.heap.size+1,6,none⟩=some (.int .i64 0)/\V.cell? ⟨w.heap.size+1,7,none⟩=some (.int .i64 0)/\V.cell? ⟨w.heap.size+1,8,none⟩=some (.int .i64 0)/\V.cell? ⟨w.heap.size+1,9,none⟩=some (.int .i64 0)/\V.cell? ⟨w.heap.size+1,10,none⟩=some (.int .i64 0))) (by kernel_rfl) ?_ (fun hHeld=>?_)
  (focus((try dsimp only);(first|exact⟨Qa z1 0 rfl,Qa z1 1 rfl,Qa z1 2 rfl,Qa z1 3 rfl,Qa z1 4 rfl,Qa z1 5 rfl,Qa z1 6 rfl,Qa z1 7 rfl,Qa z1 8 rfl,Qa z1 9 rfl,Qa z1 10 rfl⟩|exact⟨Qa z0 0 rfl,Qa z0 1 rfl,Qa z0 2 rfl,Qa z0 3 rfl,Qa z0 4 rfl,Qa z0 5 rfl,Qa z0 6 rfl,Qa z0 7 rfl,Qa z0 8 rfl,Qa z0 9 rfl,Qa z0 10 rfl⟩|exact⟨Qa z2 0 rfl,Qa z2 1 rfl,Qa z2 2 rfl,Qa z2 3 rfl,Qa z2 4 rfl,Qa z2 5 rfl,Qa z2 6 rfl,Qa z2 7 rfl,Qa z2 8 rfl,Qa z2 9 rfl,Qa z2 10 rfl⟩|assumption)))
  refine QD (.f 0 (.f 1 (.f 2 (.f 3 (.o 4 (.r 5 (.f 6 .e))))))) ?_
  repeat' ((first|(refine QL (v:=?_) (hv:=?_) (h:=?_);rotate_left;(focus(first|(refine .inr ⟨by rfl,?_⟩;rfl)|(refine .inl ⟨by rfl,?_⟩;intro w hSw;(try dsimp only at hSw);(try simp only[D8,D4,D5]);go_simp;try(with_reducible rfl)))))|(refine Qr (h:=?_))|((first|((refine Qx (h:=fun K hK=>?_))<;>((try simp only[D8,D4,D5]);go_simp))|(refine Q0 (h:=fun K hK=>?_)))<;>((first|(go_at_call 149;refine(k _).mono ?_;rintro e w9 ⟨v,rfl,hv,z4⟩;replace z4:Below w3.heap.size w3 w9:=Jg z4;have HV:=DY hv;have zd:=DY (Qb zv.out z4);have z9:=Qe zg z4;have z0:=Qe z1 z4;clear hv z4)|(refine Q2 65 (.tmp 8) (.tmp 37) rfl w.heap.size Zb rfl rfl Zb 65 z9 rfl z5 z6 ?_;intro W4 h4 z8 zG;have z2:W4.heap[w.heap.size+1]?=some (.cells Zb 65):=(z8.block _ (D0.1 z0).1 (fun e=>zf (Nd e))).trans z0));refine hK.out _ _ ?_ (fun hHeld=>?_);(focus((try dsimp only);(first|exact⟨Qa z1 0 rfl,Qa z1 1 rfl,Qa z1 2 rfl,Qa z1 3 rfl,Qa z1 4 rfl,Qa z1 5 rfl,Qa z1 6 rfl,Qa z1 7 rfl,Qa z1 8 rfl,Qa z1 9 rfl,Qa z1 10 rfl⟩|exact⟨Qa z0 0 rfl,Qa z0 1 rfl,Qa z0 2 rfl,Qa z0 3 rfl,Qa z0 4 rfl,Qa z0 5 rfl,Qa z0 6 rfl,Qa z0 7 rfl,Qa z0 8 rfl,Qa z0 9 rfl,Qa z0 10 rfl⟩|exact⟨Qa z2 0 rfl,Qa z2 1 rfl,Qa z2 2 rfl,Qa z2 3 rfl,Qa z2 4 rfl,Qa z2 5 rfl,Qa z2 6 rfl,Qa z2 7 rfl,Qa z2 8 rfl,Qa z2 9 rfl,Qa z2 10 rfl⟩|assumption)));clear hK K)))<;>(try simp only[Act.put,Nc,Nf,Ng]))
  all_goals (refine Qu ?_;refine wpAnyH_done (by kernel_rfl) ?_ _)
  all_goals (go_wp2;(try simp only[Exit.inBlock,Exit.then]);refine bodyPost_ret (v:= .tuple #[.agg Zb,v]) (Qw (p:=8) (u:=9) rfl _ _ w.heap.size 65 Zb _ _ rfl h4 underlying65 rfl z5) rfl ?_;exact VD.err HN HV zd z9 z8)
 have hl:=Ut he;have zJ:=DY (zu.out he);have hr:=super1_any A2 c2 (XM pb 1 0) p zC (by rw[hl];simp[reachBytes]) (Qh.of_own z3) zH;rw[Qm,hl] at z3 ⊢;rw[hl] at hr;rw[he];clear he z3 hl zq zu zi zC;generalize XM pb 1 0=q at*;have HQ:=DY (show Jh (Jn bs) q=if supE (Jn bs) q=0 then some (Z8 q) else none by
  unfold Jh supE;by_cases h0:X9 q=0
  ·rw[if_pos h0,if_pos h0]
   split
   ·rfl
   ·rfl
  ·rw[if_neg h0,if_neg h0,if_neg h0])
 have zj:=DY (show QZ bs=Jh (Jn bs) q by unfold QZ;rw[zJ.out];rfl);have zc:=ZJ (Z8 q);have z7:=ZP (Z8 q);have zl:Hid ((QQ fun _=>0).size=(QQ (Z8 q)).size):=rfl;have HC:=DY (show QQ (Z8 q)=QQ (Z8 q) from rfl);generalize QZ bs=nq at*;generalize Jh (Jn bs) q=nq2 at*;generalize supE (Jn bs) q=er at*;generalize hC:QQ (Z8 q)=C at hr zc z7 zl;have zL:=DY hC;clear hC HC;generalize Z8 q=n at*;go_wp2_with fail
 refine hr.mono ?_;rintro e w4 ⟨rfl,zm⟩;have hA:=heap_alloc_new w4 (.cells Zb 65);clear hr;go_upto_region 9 with(refine Ql rfl 65 _ _ rfl w4.heap.size C rfl rfl Zb 65 hA zl.out zc z7 ?_;intro w5 h5 zB zN)
 have zk:Below w4.heap.size w4 w5:=(Qd w4 _).grown zB (Qd w4 _).size (fun k hk=>by cases hk;exact Na _);have zo:=DY (Qb (Qb zv zm) zk);have zy:=DY (Qe (Qe zs zm) zk);have zD:=DY (Qe (Qe zt zm) zk);clear zm zk zs zt zH zv hA zB zN;by_cases he:er=0
 case neg=>
  have HN:=DY (show nq=none by rw[zj.out,HQ.out,if_neg he]);have k:=fun V=>HT.out _ he V
  have d1:(er !=0)=true:=by rw[bne_iff_ne];exact he
  clear he HT HQ zj h5 zc z7 zl;have zg:=zy.out;have z1:=zD.out;have zf:w.heap.size+1≠w.heap.size:=by omega
  go_upto_region 10 with fail
  refine wp_region_held_drew (S:=(fun V:World=>V.cell? ⟨w.heap.size+1,0,none⟩=some (.int .i64 0)/\V.cell? ⟨w.heap.size+1,1,none⟩=some (.int .i64 0)/\V.cell? ⟨w.heap.size+1,2,none⟩=some (.int .i64 0)/\V.cell? ⟨w.heap.size+1,3,none⟩=some (.int .i64 0)/\V.cell? ⟨w.heap.size+1,4,none⟩=some (.int .i64 0)/\V.cell? ⟨w.heap.size+1,5,none⟩=some (.int .i64 0)/\V.cell? ⟨w.heap.size+1,6,none⟩=some (.int .i64 0)/\V.cell? ⟨w.heap.size+1,7,none⟩=some (.int .i64 0)/\V.cell? ⟨w.heap.size+1,8,none⟩=some (.int .i64 0)/\V.cell? ⟨w.heap.size+1,9,none⟩=some (.int .i64 0)/\V.cell? ⟨w.heap.size+1,10,none⟩=some (.int .i64 0))) (by kernel_rfl) ?_ (fun hHeld=>?_)
  (focus((try dsimp only);(first|exact⟨Qa z1 0 rfl,Qa z1 1 rfl,Qa z1 2 rfl,Qa z1 3 rfl,Qa z1 4 rfl,Qa z1 5 rfl,Qa z1 6 rfl,Qa z1 7 rfl,Qa z1 8 rfl,Qa z1 9 rfl,Qa z1 10 rfl⟩|exact⟨Qa z0 0 rfl,Qa z0 1 rfl,Qa z0 2 rfl,Qa z0 3 rfl,Qa z0 4 rfl,Qa z0 5 rfl,Qa z0 6 rfl,Qa z0 7 rfl,Qa z0 8 rfl,Qa z0 9 rfl,Qa z0 10 rfl⟩|exact⟨Qa z2 0 rfl,Qa z2 1 rfl,Qa z2 2 rfl,Qa z2 3 rfl,Qa z2 4 rfl,Qa z2 5 rfl,Qa z2 6 rfl,Qa z2 7 rfl,Qa z2 8 rfl,Qa z2 9 rfl,Qa z2 10 rfl⟩|assumption)))
  refine QD (.f 0 (.f 1 (.f 2 (.f 3 (.o 4 (.r 5 (.f 6 .e))))))) ?_
  repeat' ((first|(refine QL (v:=?_) (hv:=?_) (h:=?_);rotate_left;(focus(first|(refine .inr ⟨by rfl,?_⟩;rfl)|(refine .inl ⟨by rfl,?_⟩;intro w hSw;(try dsimp only at hSw);(try simp only[D8,D4,D5]);go_simp;try(with_reducible rfl)))))|(refine Qr (h:=?_))|((first|((refine Qx (h:=fun K hK=>?_))<;>((try simp only[D8,D4,D5]);go_simp))|(refine Q0 (h:=fun K hK=>?_)))<;>((first|(go_at_call 149;refine(k _).mono ?_;rintro e w9 ⟨v,rfl,hv,z4⟩;replace z4:Below w5.heap.size w5 w9:=Jg z4;have HV:=DY hv;have zd:=DY (Qb zo.out z4);have z9:=Qe zg z4;have z0:=Qe z1 z4;clear hv z4)|(refine Q2 65 (.tmp 8) (.tmp 50) rfl w.heap.size Zb rfl rfl Zb 65 z9 rfl z5 z6 ?_;intro W4 h4 z8 zG;have z2:W4.heap[w.heap.size+1]?=some (.cells Zb 65):=(z8.block _ (D0.1 z0).1 (fun e=>zf (Nd e))).trans z0));refine hK.out _ _ ?_ (fun hHeld=>?_);(focus((try dsimp only);(first|exact⟨Qa z1 0 rfl,Qa z1 1 rfl,Qa z1 2 rfl,Qa z1 3 rfl,Qa z1 4 rfl,Qa z1 5 rfl,Qa z1 6 rfl,Qa z1 7 rfl,Qa z1 8 rfl,Qa z1 9 rfl,Qa z1 10 rfl⟩|exact⟨Qa z0 0 rfl,Qa z0 1 rfl,Qa z0 2 rfl,Qa z0 3 rfl,Qa z0 4 rfl,Qa z0 5 rfl,Qa z0 6 rfl,Qa z0 7 rfl,Qa z0 8 rfl,Qa z0 9 rfl,Qa z0 10 rfl⟩|exact⟨Qa z2 0 rfl,Qa z2 1 rfl,Qa z2 2 rfl,Qa z2 3 rfl,Qa z2 4 rfl,Qa z2 5 rfl,Qa z2 6 rfl,Qa z2 7 rfl,Qa z2 8 rfl,Qa z2 9 rfl,Qa z2 10 rfl⟩|assumption)));clear hK K)))<;>(try simp only[Act.put,Nc,Nf,Ng]))
  all_goals (refine Qu ?_;refine wpAnyH_done (by kernel_rfl) ?_ _)
  all_goals (go_wp2;(try simp only[Exit.inBlock,Exit.then]);refine bodyPost_ret (v:= .tuple #[.agg Zb,v]) (Qw (p:=8) (u:=9) rfl _ _ w.heap.size 65 Zb _ _ rfl h4 underlying65 rfl z5) rfl ?_;exact VD.err HN HV zd z9 z8)
 have HN:=DY (show nq=some n by rw[zj.out,HQ.out,if_pos he]);subst he;have zM:=zy.out;clear HT HQ zj zD;go_wp2_with (first|(refine wpList_load_row rfl 65 _ rfl w4.heap.size rfl 65 _ _ _ h5 underlying65 rfl zc ?_)|(refine Ql rfl 65 _ _ rfl w.heap.size C rfl rfl Zb 65 zM zl.out zc z7 ?_;intro w6 h6 zK hs6))
 (try simp only[Exit.inBlock,Exit.then])
 refine bodyPost_ret (v:= .tuple #[.agg C, .nilIface]) (Qw (p:=8) (u:=9) rfl _ _ w.heap.size 65 C _ _ rfl h6 underlying65 rfl zc) rfl ?_;exact⟨.inl ⟨n,HN.out,by rw[zL.out]⟩,zo.out.grown zK zo.out.size (fun k hk=>by cases hk;exact Na _)⟩
theorem bsuper_any{w:World}{B g:Nat}{A:Option Addr}{c:Nat}{bs:List UInt8}(h:Img w B g A c bs):
  Calls prog 42 #[.pointer (some ⟨g,0,none⟩)] w (VD (QZ bs) w):=by
 obtain⟨w1,z3,z9,-⟩:=DT w (.cells #[.pointer (some ⟨g,0,none⟩)] 24) (.cells #[.int .i64 0, .int .i64 0, .int .i64 0, .int .i64 0, .int .i64 0, .int .i64 0, .int .i64 0, .int .i64 0, .int .i64 0, .int .i64 0, .int .i64 0] 65);have hp:w1.cell? ⟨w.heap.size,0,none⟩=some (.pointer (some ⟨g,0,none⟩)):=by rw[z3];exact Qa (Qj (heap_alloc_new w _) _) 0 rfl
 have za:w1.heap[w.heap.size+1]?=some (.cells Zb 65):=by
  rw[z3,show w.heap.size+1=(w.alloc (.cells #[.pointer (some ⟨g,0,none⟩)] 24)).heap.size by simp]
  exact heap_alloc_new _ _
 have hr:=readSp_any (h.below z9) ⟨w.heap.size,0,none⟩ hp;have z6:=DY z9;have zc:=DY za;have z1:(prog.info? 65).map (·.size)=some Zb.size:=ZJ fun _=>0
 have z0:∀v∈Zb.toList,v.oneCell'=true:=ZP fun _=>0
 clear h z9 za;generalize QZ bs=nq at*;go_enter func42,ntmps42
 go_upto_region 1 with fail
 rw[show(w.alloc (.cells #[.pointer (some ⟨g,0,none⟩)] 24)).alloc (.cells #[.int .i64 0, .int .i64 0, .int .i64 0, .int .i64 0, .int .i64 0, .int .i64 0, .int .i64 0, .int .i64 0, .int .i64 0, .int .i64 0, .int .i64 0] 65)=w1 from z3.symm]
 clear z3;go_wp2_with fail
 refine hr.mono ?_;rintro e w2 ⟨h,z7⟩;have z4:=DY (Qb z6 z7);have z8:=Qe zc z7;have HS:=DY (show w.heap.size<=w1.heap.size from z6.out.size);clear hr z7 zc z6 hp;rcases h with⟨s,hq,rfl⟩|⟨hq,v,rfl,hv⟩
 ·have HQ:=DY hq;have zb:=ZJ s;have z5:=ZP s;have ze:Hid (Zb.size=(QQ s).size):=rfl;generalize hC:QQ s=C at*;have zd:=DY hC;clear hq HS hC;go_wp2_with (refine Ql rfl 65 _ _ rfl (w.heap.size+1) C rfl rfl Zb 65 z8 ze.out zb z5 ?_;intro w6 h6 z2 zf)
  (try simp only[Exit.inBlock,Exit.then])
  refine bodyPost_ret (v:= .tuple #[.agg C, .nilIface]) (Qw (p:=2) (u:=3) rfl _ _ (w.heap.size+1) 65 C _ _ rfl h6 underlying65 rfl zb) rfl ?_;exact⟨.inl ⟨s,HQ.out,by rw[zd.out]⟩,z4.out.grown z2 z4.out.size (fun k hk=>by have:=Nd hk;omega)⟩
 ·have HV:=DY hv;have HQ:=DY hq;obtain⟨t,x,rfl⟩:=hv.form;clear hv hq HS;go_wp2_with (refine Ql rfl 65 _ _ rfl (w.heap.size+1) Zb rfl rfl Zb 65 z8 rfl z1 z0 ?_;intro w6 h6 z2 zf)
  (try simp only[Exit.inBlock,Exit.then])
  refine bodyPost_ret (v:= .tuple #[.agg Zb, .iface t x]) (Qw (p:=2) (u:=3) rfl _ _ (w.heap.size+1) 65 Zb _ _ rfl h6 underlying65 rfl z1) rfl ?_;exact⟨.inr ⟨HQ.out,_,rfl,(HV.out.grown z8 (by decide) z2).more z2.size⟩,z4.out.grown z2 z4.out.size (fun k hk=>by have:=Nd hk;omega)⟩
theorem Kz{w:World}{base m:Nat}{bs:List UInt8}(h:ZH w base m bs):Calls prog 42 #[.pointer (some ⟨m,0,none⟩)] w (VD (QZ bs) w):=by
 obtain⟨B,A,c,h,-⟩:=h;exact bsuper_any h
def Xq(g:Qv->Value)(D:List Qv)(x:Int):Option Value:=(D.find? fun e=>decide (e.key=x)).map g
theorem keyF_nil(g:Qv->Value):Xq g []=fun _=>none:=rfl
theorem Gg{g:Qv->Value}{D:List Qv}{e:Qv}(h:e.key∉Qp D):(fun y=>if y=e.key then some (g e) else Xq g D y)=Xq g (D++[e]):=by
 funext y
 unfold Xq;rw[List.find?_append];by_cases hy:y=e.key
 ·subst hy;rw[if_pos rfl,VM h];simp
 ·rw[if_neg hy];cases D.find? (fun e=>decide (e.key=y)) with
  |some d=>rfl
  |none=>
   rw[Option.none_or,List.find?_cons_of_neg (by rw[decide_eq_true_iff];exact fun e=>hy e.symm)]
   rfl
theorem RQ{D:List Qv}(hp:(Qp D).Pairwise (·<·)){k:Nat}(hk:k<D.length):D[k].key∉Qp (D.take k):=by
 intro h;have e:D=D.take k++D[k]::D.drop (k+1):=by rw[List.getElem_cons_drop,N0]
 rw[e] at hp;unfold Qp at hp h;rw[Ns,List.pairwise_append] at hp;have:=hp.2.2 _ h D[k].key (Lc (Ll ..));omega
theorem XP{D:List Qv}(p:Qv->Bool){k:Nat}(hk:k<D.length):(D.take (k+1)).all p=((D.take k).all p&&p D[k]):=by
 rw[Nl hk,List.all_append];simp
theorem keyF_some{g:Qv->Value}{D:List Qv}{x:Int}{v:Value}(h:Xq g D x=some v):∃e∈D,e.key=x/\v=g e:=by
 unfold Xq at h;cases hf:D.find? (fun e=>decide (e.key=x)) with
 |none=>rw[hf] at h;cases h
 |some e=>
  rw[hf] at h;cases h;exact⟨e,List.mem_of_find?_eq_some hf,by have:=List.find?_some hf;simpa using this,rfl⟩
theorem Ku{g:Qv->Value}{D:List Qv}{x:Int}:(Xq g D x).isSome=true↔x∈Qp D:=by
 constructor
 ·intro h;obtain⟨v,hv⟩:=Option.isSome_iff_exists.1 h;obtain⟨e,he,rfl,-⟩:=keyF_some hv;exact Lc he
 ·intro h;unfold Xq;cases hf:D.find? (fun e=>decide (e.key=x)) with
  |none=>
   obtain⟨e,he,rfl⟩:=LA.1 h;have:=List.find?_eq_none.1 hf e he;simp at this
  |some e=>rfl
def Jt(e:Qv):Value:= .agg (iv (rdN QU e.val)).toArray
def YG(e:Qv):Value:= .int .i64 (rd1 QB e.val)
theorem detV_four(e:Qv):Jt e= .agg #[.int .i64 ((rdN QU e.val).getD 0 0), .int .i64 ((rdN QU e.val).getD 1 0), .int .i64 ((rdN QU e.val).getD 2 0), .int .i64 ((rdN QU e.val).getD 3 0)]:=by
 unfold Jt;have h2:=Vv QU e.val;generalize rdN QU e.val=l at*
 match l,h2 with
 |[a,b,c,d],_=>rfl
def Za(bs:List UInt8)(data fuel:Int)(b0:Bool)(T:List Qv):Bool:=b0||!(T.all (YT bs data fuel))
theorem JM(bs:List UInt8)(data fuel:Int)(b0:Bool)(T:List Qv){k:Nat}(hk:k<T.length):Za bs data fuel b0 (T.take (k+1))=(Za bs data fuel b0 (T.take k)||!(YT bs data fuel T[k])):=by
 unfold Za;rw[XP _ hk];cases b0<;>cases(T.take k).all (YT bs data fuel)<;>cases YT bs data fuel T[k]<;>rfl
end Go.Proofs.YtijcgllddnpmhaaGreatDoor
