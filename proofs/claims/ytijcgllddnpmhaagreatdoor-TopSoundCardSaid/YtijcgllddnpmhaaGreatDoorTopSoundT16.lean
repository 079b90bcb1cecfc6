/- TopSound: lemmas, part 16. -/
import Derived.Test.YtijcgllddnpmhaaGreatDoorTopSoundT14
set_option maxRecDepth 100000
set_option maxHeartbeats 16000000
set_option linter.all false
namespace Go.Proofs.YtijcgllddnpmhaaGreatDoor
open Go.RowKit Go.Proofs.Tryz
def Qp(l:List Qv):List Int:=l.map Qv.key
def ZW(b:Int)(l:List Qv):Prop:=(Qp l).Pairwise (·<·)/\∀k∈Qp l,0<=k/\k<b
theorem ZW.up{b c:Int}{l:List Qv}(h:ZW b l)(hc:b<=c):ZW c l:=⟨h.1,fun k hk=>⟨(h.2 k hk).1,Int.lt_of_lt_of_le (h.2 k hk).2 hc⟩⟩
theorem JW:∀(l:List Int),VK l=true->l.Pairwise (·<·)
 |[],_=> .nil
 |[a],_=>by simp
 |a::b::r,h=>by
  unfold VK at h;rw[Nu,decide_eq_true_iff] at h;have ih:=JW (b::r) h.2;refine List.Pairwise.cons (fun x hx=>?_) ih;rcases Nt.1 hx with rfl|hx
  ·exact h.1
  ·exact Int.lt_trans h.1 ((Le.1 ih).1 x hx)
theorem Df:∀{l:List Int},l.Pairwise (·<·)->∀{x:Int},x∈l->x<=l.getLastD 0
 |[],_,_,h=>by cases h
 |[a],_,x,h=>by
  rcases Nt.1 h with rfl|h
  ·exact Int.le_refl _
  ·cases h
 |a::b::r,hp,x,h=>by
  have z0:=Le.1 hp;have e:(a::b::r).getLastD 0=(b::r).getLastD 0:=by simp
  rw[e];rcases Nt.1 h with rfl|h
  ·have h1:=z0.1 b (by simp);have h2:=Df z0.2 (x:=b) (by simp);omega
  ·exact Df z0.2 h
theorem fits_keys{lo hi:Int}{keys:List Int}(h:Z0 lo hi keys=true):0<=lo/\lo<=hi/\keys.Pairwise (·<·)/\∀k∈keys,lo<=k/\k<hi:=by
 unfold Z0 JQ at h;simp only[Nu,Bool.or_eq_true,decide_eq_true_iff] at h;obtain⟨⟨h1,h2,-⟩,h4,h5⟩:=h;have hp:=JW keys h4;refine⟨h1,h2,hp,fun k hk=>?_⟩
 rcases h5 with rfl|⟨h6,h7⟩
 ·cases hk
 ·unfold Ue at h6 h7;rw[decide_eq_true_iff] at h6 h7;have hl:=Df hp hk;refine⟨?_,by omega⟩
  cases keys with
  |nil=>cases hk
  |cons a r=>
   have h8:lo<=a:=h6.1;rcases Nt.1 hk with rfl|hk
   ·exact h8
   ·have:=(Le.1 hp).1 k hk;omega
theorem OH(no:Int):∀(ks:List Int) (vs:List (List UInt8)),(Qp (Zw no ks vs)).Sublist ks
 |[],vs=>by unfold Zw;exact List.Sublist.refl _
 |k::ks,[]=>by unfold Zw;exact List.nil_sublist _
 |k::ks,v::vs=>by unfold Zw;exact(OH no ks vs).cons_cons k
theorem ZW.app{b c:Int}{l m:List Qv}(h:ZW b l)(hm:(Qp m).Pairwise (·<·))(hk:∀k∈Qp m,b<=k/\k<c)(hbc:b<=c)(h0:0<=b):ZW c (l++m):=by
 have e:Qp (l++m)=Qp l++Qp m:=by simp[Qp]
 unfold ZW;rw[e];refine⟨List.pairwise_append.2 ⟨h.1,hm,fun x hx y hy=>?_⟩,fun k z0=>?_⟩
 ·have:=(h.2 x hx).2;have:=(hk y hy).1;omega
 ·rcases NY.1 z0 with z0|z0
  ·have:=h.2 k z0;omega
  ·have:=hk k z0;omega
theorem ED{f:Int->Int->Int->WS->WS}(hf:∀no lo hi s,lo<=hi->ZW lo s.ents->ZW hi (f no lo hi s).ents):∀(vs:List (List UInt8)) (keys:List Int) (hi:Int) (s:WS),
  keys.Pairwise (·<·)->(∀k∈keys,k<hi)->ZW (keys.headD hi) s.ents->ZW hi (Yl f vs (Xh hi keys) s).ents
 |vs,[],hi,s,_,_,h=>by
  have e:Yl f vs (Xh hi []) s=s:=by unfold Xh;cases vs<;>rfl
  rw[e];exact h
 |[],[k],hi,s,_,hk,h=>by
  have h:ZW k s.ents:=h;exact h.up (Int.le_of_lt (hk k (by simp)))
 |[],a::b::r,hi,s,_,hk,h=>by
  have h:ZW a s.ents:=h;exact h.up (Int.le_of_lt (hk a (by simp)))
 |v::vs,[k],hi,s,hp,hk,h=>by
  have h:ZW k s.ents:=h;have z1:k<=hi:=Int.le_of_lt (hk k (by simp));have ht:ZW hi (if rdE [QB] v=0 then f (rd1 QB v) k hi s else s.fail).ents:=by
   split
   ·exact hf _ _ _ _ z1 h
   ·exact h.up z1
  unfold Xh Yl;dsimp only;generalize (if rdE [QB] v=0 then f (rd1 QB v) k hi s else s.fail)=t at*
  split
  ·exact ht
  ·have e:Yl f vs [] t=t:=by cases vs<;>rfl
   rw[e];exact ht
 |v::vs,a::b::r,hi,s,hp,hk,h=>by
  have h:ZW a s.ents:=h;have z0:=Le.1 hp;have z2:a<=b:=Int.le_of_lt (z0.1 b (by simp));have ht:ZW b (if rdE [QB] v=0 then f (rd1 QB v) a b s else s.fail).ents:=by
   split
   ·exact hf _ _ _ _ z2 h
   ·exact h.up z2
  unfold Xh Yl;dsimp only;generalize (if rdE [QB] v=0 then f (rd1 QB v) a b s else s.fail)=t at*
  split
  ·exact ht.up (Int.le_of_lt (hk b (by simp)))
  ·exact ED hf vs (b::r) hi t z0.2 (fun k hk2=>hk k (NA _ hk2)) ht
theorem Rx(bs:List UInt8)(tree fuel:Int):∀(d:Nat) (way:List Int) (no lo hi:Int) (s:WS),lo<=hi->ZW lo s.ents->ZW hi (Zx bs tree fuel d way no lo hi s).ents
 |0,way,no,lo,hi,s,hlh,h=>by
  unfold Zx
  split
  ·exact h.up hlh
  ·exact h.up hlh
 |d+1,way,no,lo,hi,s,hlh,h=>by
  unfold Zx
  split
  ·exact h.up hlh
  ·split
   ·exact h.up hlh
   ·split
    ·exact h.up hlh
    ·rename_i n hn
     split
     ·exact h.up hlh
     ·rename_i z0
      have z0:Z0 lo hi n.keys=true:=by simpa using z0
      obtain⟨h0,_,hp,hk⟩:=fits_keys z0
      split
      ·split
       ·exact h.up hlh
       ·have hs:=OH no n.keys n.vals;exact h.app (hp.sublist hs) (fun k hk2=>hk k (hs.subset hk2)) hlh h0
      ·refine ED (fun no lo hi s hl h=>Rx bs tree fuel d _ no lo hi s hl h) n.vals n.keys hi s.see hp (fun k hk2=>(hk k hk2).2) ?_;cases hks:n.keys with
       |nil=>exact h.up hlh
       |cons a r=>
        have:=(hk a (by rw[hks];simp)).1;exact ZW.up (c:=a) h this
theorem Xo(bs:List UInt8)(root tree fuel:Int):ZW 281474976710656 (QP bs root tree fuel).ents:=
 Rx bs tree fuel 16 [] root 0 281474976710656 ws0 (by decide) ⟨by simp[Qp,ws0],by simp[Qp,ws0]⟩
def Z1(e:Qv):Bool:=decide (e.key<=16777215/\rdE QU e.val=0)
def YT(bs:List UInt8)(data fuel:Int)(e:Qv):Bool:=decide (rdE [QB] e.val=0)&&(ZM bs data fuel (rd1 QB e.val)).isSome
def DB(bs:List UInt8)(data fuel:Int)(d t:Qv):Option Q4:=
 (ZM bs data fuel (rd1 QB t.val)).bind fun l=>if(l.length:Int)=(rdN QU d.val).getD 0 0 then some ⟨d.key,(rdN QU d.val).getD 1 0,(rdN QU d.val).getD 2 0,(rdN QU d.val).getD 3 0,l⟩ else none
def Zq(bs:List UInt8)(data fuel:Int)(D T:List Qv)(id:Int):Option Q4:=
 (D.find? fun e=>decide (e.key=id)).bind fun d=>(T.find? fun e=>decide (e.key=id)).bind fun t=>DB bs data fuel d t
def Jw(bs:List UInt8)(s:Nat->Int)(fuel:Int):Bool:=
 !(QP bs (s 6) 3 fuel).bad&&((QP bs (s 6) 3 fuel).ents.all Z1&&(!(QP bs (s 5) 1 fuel).bad&&(QP bs (s 5) 1 fuel).ents.all (YT bs (s 3) fuel)))
def auditP(bs:List UInt8)(s:Nat->Int)(fuel:Int)(ids:List Int):Option Xe:=
 if Jw bs s fuel=true then
  (ids.mapM (Zq bs (s 3) fuel (QP bs (s 6) 3 fuel).ents (QP bs (s 5) 1 fuel).ents)).bind fun l=>
   if l.length<=4096/\(l.map fun d=>d.maps.length).sum<=16384 then some ⟨s 0,s 1,s 2,s 3,l⟩ else none
 else none
theorem pw_ext:∀{a b:List Int},a.Pairwise (·<·)->b.Pairwise (·<·)->(∀x,x∈a↔x∈b)->a=b
 |[],[],_,_,_=>rfl
 |[],y::b,_,_,h=>by have:=(h y).2 (by simp);cases this
 |x::a,[],_,_,h=>by have:=(h x).1 (by simp);cases this
 |x::a,y::b,ha,hb,h=>by
  have z2:=Le.1 ha;have z0:=Le.1 hb;have z3:x=y:=by
   have h1:x∈y::b:=(h x).1 (by simp);have h2:y∈x::a:=(h y).2 (by simp);rcases Nt.1 h1 with h1|h1
   ·exact h1
   ·rcases Nt.1 h2 with h2|h2
    ·exact h2.symm
    ·have:=z0.1 x h1;have:=z2.1 y h2;omega
  subst z3
  congr 1
  refine pw_ext z2.2 z0.2 fun z=>⟨fun hz=>?_,fun hz=>?_⟩
  ·rcases Nt.1 ((h z).1 (NA _ hz)) with rfl|z1
   ·have:=z2.1 z hz;omega
   ·exact z1
  ·rcases Nt.1 ((h z).2 (NA _ hz)) with rfl|z1
   ·have:=z0.1 z hz;omega
   ·exact z1
theorem Ez{α β:Type}{f:α->Option β}{x:α}:∀{l:List α},x∈l->f x=none->l.mapM f=none
 |[],h,_=>by cases h
 |y::r,h,hx=>by
  rw[Lq];rcases Nt.1 h with rfl|h
  ·rw[hx];rfl
  ·rw[Ez h hx];cases f y<;>rfl
theorem VM{D:List Qv}{id:Int}(h:id∉Qp D):D.find? (fun e=>decide (e.key=id))=none:=by
 rw[List.find?_eq_none];intro e he;rw[decide_eq_true_iff];rintro rfl;exact h (Lc he)
theorem OO{D:List Qv}(hp:(Qp D).Pairwise (·<·)){e:Qv}(h:e∈D):D.find? (fun x=>decide (x.key=e.key))=some e:=by
 induction D with
 |nil=>cases h
 |cons a r ih=>
  have z0:(∀x∈Qp r,a.key<x)/\(Qp r).Pairwise (·<·):=Le.1 hp;rcases Nt.1 h with rfl|h
  ·rw[List.find?_cons_of_pos (by simp)]
  ·have:=z0.1 e.key (Lc h);rw[List.find?_cons_of_neg (by rw[decide_eq_true_iff];omega)];exact ih z0.2 h
theorem EO{bs:List UInt8}{data fuel:Int}:∀{l:List (Qv×Qv)} {p:Qv×Qv} (n:Nat),p∈l->Xz bs data fuel p.1 p.2=none->ZU bs data fuel n l=none
 |[],_,_,h,_=>by cases h
 |(d,t)::r,p,n,h,hp=>by
  unfold ZU;rcases Nt.1 h with rfl|h
  ·rw[hp];rfl
  ·cases Xz bs data fuel d t with
   |none=>rfl
   |some x=>
    show(if n+x.maps.length<=16384 then(ZU bs data fuel (n+x.maps.length) r).map fun l=>x::l else none)=none
    rw[EO _ h hp]
    split<;>rfl
theorem Gs{bs:List UInt8}{data fuel:Int}:∀(l:List (Qv×Qv)) (n:Nat),ZU bs data fuel n l=(l.mapM fun p=>Xz bs data fuel p.1 p.2).bind fun q=>if n+(q.map fun d=>d.maps.length).sum<=16384∨l=[] then some q else none
 |[],n=>by simp[ZU]
 |(d,t)::r,n=>by
  unfold ZU;rw[Lq];cases hd:Xz bs data fuel d t with
  |none=>rfl
  |some x=>
   show(if n+x.maps.length<=16384 then(ZU bs data fuel (n+x.maps.length) r).map fun l=>x::l else none)=_
   rw[Gs r];cases hr:r.mapM (fun p=>Xz bs data fuel p.1 p.2) with
   |none=>split<;>rfl
   |some q=>
    show _=(if n+((x::q).map fun d=>d.maps.length).sum<=16384∨(d,t)::r=[] then some (x::q) else none)
    rw[Lg,Lu];dsimp only[Option.bind_some];have z0:r=[]->q=[]:=by rintro rfl;simpa using hr.symm
    by_cases h1:n+x.maps.length<=16384
    ·rw[if_pos h1];by_cases h2:n+x.maps.length+(q.map fun d=>d.maps.length).sum<=16384
     ·rw[if_pos (.inl h2),if_pos (.inl (by omega))];rfl
     ·by_cases h3:r=[]
      ·exfalso;rw[z0 h3] at h2;simp at h2;omega
      ·rw[if_neg (by rintro(h|h);exact h2 h;exact h3 h),if_neg (by rintro(h|h);omega;cases h)];rfl
    ·rw[if_neg h1,if_neg (by rintro(h|h);omega;cases h)]
theorem zip_keys:∀(D T:List Qv),Qp D=Qp T->∀p∈D.zip T,p.1∈D/\p.2∈T/\p.1.key=p.2.key
 |[],_,_,p,h=>by simp at h
 |_::_,[],_,p,h=>by simp at h
 |d::D,t::T,h,p,hp=>by
  have h2:d.key=t.key/\Qp D=Qp T:=by simpa[Qp] using h
  rw[LF] at hp;rcases Nt.1 hp with rfl|hp
  ·exact⟨by simp,by simp,h2.1⟩
  ·obtain⟨a,b,c⟩:=zip_keys D T h2.2 p hp;exact⟨NA _ a,NA _ b,c⟩
theorem zip_left:∀{D T:List Qv},Qp D=Qp T->∀{d:Qv},d∈D->∃t,(d,t)∈D.zip T
 |[],_,_,d,h=>by cases h
 |_::_,[],h,d,_=>by simp[Qp] at h
 |a::D,t::T,h,d,hd=>by
  have h2:a.key=t.key/\Qp D=Qp T:=by simpa[Qp] using h
  rw[LF];rcases Nt.1 hd with rfl|hd
  ·exact⟨t,by simp⟩
  ·obtain⟨x,hx⟩:=zip_left h2.2 hd;exact⟨x,NA _ hx⟩
theorem GX:∀{D T:List Qv},Qp D=Qp T->∀{t:Qv},t∈T->∃d,(d,t)∈D.zip T
 |_,[],_,d,h=>by cases h
 |[],_::_,h,d,_=>by simp[Qp] at h
 |a::D,t::T,h,d,hd=>by
  have h2:a.key=t.key/\Qp D=Qp T:=by simpa[Qp] using h
  rw[LF];rcases Nt.1 hd with rfl|hd
  ·exact⟨a,by simp⟩
  ·obtain⟨x,hx⟩:=GX h2.2 hd;exact⟨x,NA _ hx⟩
theorem mapM_zip{β:Type}{g:Int->Option β}{f:Qv×Qv->Option β}:∀(D T:List Qv),Qp D=Qp T->(∀p∈D.zip T,g p.1.key=f p)->(Qp D).mapM g=(D.zip T).mapM f
 |[],_,_,_=>by simp[Qp]
 |_::_,[],h,_=>by simp[Qp] at h
 |d::D,t::T,h,hf=>by
  have h2:d.key=t.key/\Qp D=Qp T:=by simpa[Qp] using h
  have e:Qp (d::D)=d.key::Qp D:=rfl;rw[e,LF,Lq,Lq,hf (d,t) (by simp),mapM_zip D T h2.2 (fun p hp=>hf p (by rw[LF];exact NA _ hp))]
theorem J7{α β:Type}{f:α->Option β}:∀{l:List α} {q:List β},l.mapM f=some q->q.length=l.length
 |[],q,h=>by simp at h;subst h;rfl
 |a::r,q,h=>by
  rw[Lq] at h;cases ha:f a with
  |none=>rw[ha] at h;cases h
  |some y=>
   rw[ha] at h;cases hr:r.mapM f with
   |none=>rw[hr] at h;cases h
   |some q2=>
    rw[hr] at h;cases h;simp[J7 hr]
theorem audit_load(bs:List UInt8)(s:Nat->Int)(fuel:Int)(ids:List Int)(hr:ids.Pairwise (·<·))(hm:∀x,x∈ids↔x∈Qp (QP bs (s 6) 3 fuel).ents∨x∈Qp (QP bs (s 5) 1 fuel).ents):
  ((QY bs (s 5) (s 6) (s 3) fuel).map fun l=>(⟨s 0,s 1,s 2,s 3,l⟩:Xe))=auditP bs s fuel ids:=by
 have hD:=(Xo bs (s 6) 3 fuel).1;have hT:=(Xo bs (s 5) 1 fuel).1;unfold QY auditP Jw Xw;generalize QP bs (s 6) 3 fuel=WD at*;generalize QP bs (s 5) 1 fuel=WT at*;obtain⟨D,_,_,bd,_⟩:=WD;obtain⟨T,_,_,bt,_⟩:=WT;dsimp only at*;cases bd with
 |true=>rfl
 |false=>
  cases bt with
  |true=>simp
  |false=>
   simp only[Bool.false_eq_true,if_false,Option.bind_some,Bool.not_false,Bool.true_and];by_cases hk:Qp D=Qp T
   ·have z0:ids=Qp D:=pw_ext hr hD fun x=>by rw[hm x,hk];simp
    subst z0;have hk':D.map Qv.key=T.map Qv.key:=hk;have z1:(D.zip T).length=D.length:=by
     have:D.length=T.length:=by simpa[Qp] using congrArg List.length hk
     rw[List.length_zip];omega
    by_cases hok:(D.all Z1&&T.all (YT bs (s 3) fuel))=true
    ·rw[if_pos hok];rw[Nu,NX,NX] at hok;have e1:(Qp D).mapM (Zq bs (s 3) fuel D T)=(D.zip T).mapM fun p=>Xz bs (s 3) fuel p.1 p.2:=by
      refine mapM_zip D T hk fun p hp=>?_
      obtain⟨a,b,c⟩:=zip_keys D T hk p hp;unfold Zq;rw[OO hD a,Option.bind_some,c,OO hT b,Option.bind_some];have h1:=hok.1 _ a;have h2:=hok.2 _ b;unfold Z1 at h1;unfold YT at h2;rw[decide_eq_true_iff] at h1;rw[Nu,decide_eq_true_iff] at h2;unfold Xz;rw[if_pos ⟨h1.1,h1.2,h2.1⟩]
      rfl
     rw[e1,Gs];cases hq:(D.zip T).mapM (fun p=>Xz bs (s 3) fuel p.1 p.2) with
     |none=>simp
     |some q=>
      have hl:=J7 hq;rw[z1] at hl;simp only[Option.bind_some,ND];by_cases h1:D.length<=4096
      ·rw[if_pos ⟨h1,hk'⟩];by_cases h2:(q.map fun d=>d.maps.length).sum<=16384
       ·rw[if_pos (.inl h2),if_pos ⟨by omega,h2⟩];rfl
       ·have:¬(D.zip T)=[]:=by
         intro h3;rw[h3] at hq;simp at hq;subst hq;simp at h2
        rw[if_neg (by rintro(h|h);exact h2 h;exact this h),if_neg (fun h=>h2 h.2)];rfl
      ·rw[if_neg (fun h=>h1 h.1),if_neg (fun h=>h1 (by omega))];rfl
    ·rw[if_neg hok];have:∃p∈D.zip T,Xz bs (s 3) fuel p.1 p.2=none:=by
      have:(∃d∈D,¬Z1 d=true)∨(∃t∈T,¬YT bs (s 3) fuel t=true):=by
       by_cases h1:∃d∈D,¬Z1 d=true
       ·exact .inl h1
       ·refine .inr (Classical.byContradiction fun h2=>hok ?_);rw[Nu,NX,NX];exact⟨fun x hx=>Classical.byContradiction fun h=>h1 ⟨x,hx,h⟩,fun x hx=>Classical.byContradiction fun h=>h2 ⟨x,hx,h⟩⟩
      rcases this with⟨d,hd,hb⟩|⟨t,ht,hb⟩
      ·obtain⟨t,ht⟩:=zip_left hk hd;refine⟨(d,t),ht,?_⟩;unfold Z1 at hb;rw[decide_eq_true_iff] at hb;unfold Xz;rw[if_neg (fun h=>hb ⟨h.1,h.2.1⟩)]
      ·obtain⟨d,hd⟩:=GX hk ht;refine⟨(d,t),hd,?_⟩;unfold YT at hb;unfold Xz;by_cases h1:rdE [QB] t.val=0
       ·rw[decide_eq_true h1,Bool.true_and] at hb;cases hmp:ZM bs (s 3) fuel (rd1 QB t.val) with
        |some l=>rw[hmp] at hb;exact absurd rfl hb
        |none=>split<;>rfl
       ·rw[if_neg (fun h=>h1 h.2.2)]
     obtain⟨p,hp,hn⟩:=this;rw[EO 0 hp hn]
     split<;>rfl
   ·have hk':¬D.map Qv.key=T.map Qv.key:=hk;rw[if_neg (fun h=>hk' h.2)];have:∃x∈ids,Zq bs (s 3) fuel D T x=none:=by
     have:¬∀x,x∈Qp D↔x∈Qp T:=fun h=>hk (pw_ext hD hT h)
     obtain⟨x,hx⟩:=Classical.not_forall.1 this;by_cases h1:x∈Qp D
     ·have h2:x∉Qp T:=fun h=>hx ⟨fun _=>h,fun _=>h1⟩
      refine⟨x,(hm x).2 (.inl h1),?_⟩;unfold Zq;rw[VM h2];cases D.find? (fun e=>decide (e.key=x))<;>rfl
     ·have h2:x∈Qp T:=Classical.byContradiction fun h=>hx ⟨fun h3=>absurd h3 h1,fun h3=>absurd h3 h⟩
      refine⟨x,(hm x).2 (.inr h2),?_⟩;unfold Zq;rw[VM h1]
      rfl
    obtain⟨x,hx,hn⟩:=this;rw[Ez hx hn]
    split<;>rfl
theorem rdN_in{ps:List XX}{s:List UInt8}(h:rdE ps s=0):JG (ps.zip (rdN ps s))=true:=by
 unfold rdN;rw[if_pos h];unfold rdE at h
 split at h
 ·split at h
  ·rename_i h2;exact h2.2
  ·cases h
 ·cases h
theorem rd1_in{p:XX}{s:List UInt8}(h:rdE [p] s=0):p.2.1<=rd1 p s/\rd1 p s<=p.2.2:=by
 have h1:=rdN_in h;have h2:=Vv [p] s;unfold rd1;generalize rdN [p] s=l at*
 match l,h2 with
 |[x],_=>simpa[JG,inB] using h1
theorem det_in{s:List UInt8}(h:rdE QU s=0):(0<=(rdN QU s).getD 0 0/\(rdN QU s).getD 0 0<=16384)/\(0<=(rdN QU s).getD 1 0/\(rdN QU s).getD 1 0<=2147483647)/\(0<=(rdN QU s).getD 2 0/\(rdN QU s).getD 2 0<=16777215)/\(0<=(rdN QU s).getD 3 0/\(rdN QU s).getD 3 0<=16777215):=by
 have h1:=rdN_in h;have h2:=Vv QU s;generalize rdN QU s=l at*
 match l,h2 with
 |[a,b,c,d],_=>simpa[JG,inB,QU] using h1
theorem R9{α β:Type}{f:α->Option β}:∀{l:List α} {q:List β},l.mapM f=some q->∀y∈q,∃x∈l,f x=some y
 |[],q,h,y,hy=>by simp at h;subst h;cases hy
 |a::r,q,h,y,hy=>by
  rw[Lq] at h;cases ha:f a with
  |none=>rw[ha] at h;cases h
  |some z=>
   rw[ha] at h;cases hr:r.mapM f with
   |none=>rw[hr] at h;cases h
   |some q2=>
    rw[hr] at h;cases h;rcases Nt.1 hy with rfl|hy
    ·exact⟨a,by simp,ha⟩
    ·obtain⟨x,hx,e⟩:=R9 hr y hy;exact⟨x,List.mem_cons_of_mem _ hx,e⟩
theorem EA{f:Qv->Option ZO}(hf:∀e m,f e=some m->m.v=e.key):∀{l:List Qv} {q:List ZO},l.mapM f=some q->q.map ZO.v=Qp l
 |[],q,h=>by simp at h;subst h;rfl
 |a::r,q,h=>by
  rw[Lq] at h;cases ha:f a with
  |none=>rw[ha] at h;cases h
  |some z=>
   rw[ha] at h;cases hr:r.mapM f with
   |none=>rw[hr] at h;cases h
   |some q2=>
    rw[hr] at h;cases h
    show z.v::q2.map ZO.v=a.key::Qp r
    rw[hf a z ha,EA hf hr]
theorem maps_ok{data:Int}:∀(l:List ZO) (last:Int),(∀x∈l.map ZO.v,last<x)->(l.map ZO.v).Pairwise (·<·)->(∀m∈l,(0<=m.v/\m.v<=281474976710655)/\(0<=m.b/\m.b<=data-1)/\(0<=m.t/\m.t<=16777215))->XK data last l=true
 |[],_,_,_,_=>rfl
 |m::r,last,hl,hp,hm=>by
  have z0:=Le.1 hp;have h1:=hm m (by simp);unfold XK inI;rw[decide_eq_true h1.1,decide_eq_true h1.2.1,decide_eq_true h1.2.2,decide_eq_true (hl m.v (by simp)),maps_ok r m.v z0.1 z0.2 (fun x hx=>hm x (NA _ hx))]
  rfl
theorem devs_ok{data:Int}:∀(l:List Q4) (last:Int),(∀x∈l.map Q4.id,last<x)->(l.map Q4.id).Pairwise (·<·)->(∀d∈l,inI d.id 0 16777215=true/\inI d.tx 0 2147483647=true/\inI d.made 0 16777215=true/\inI d.snapped 0 16777215=true/\XK data (-1) d.maps=true)->Yy data last l=true
 |[],_,_,_,_=>rfl
 |d::r,last,hl,hp,hm=>by
  have z0:=Le.1 hp;obtain⟨h1,h2,h3,h4,h5⟩:=hm d (by simp);unfold Yy;rw[h1,h2,h3,h4,h5,decide_eq_true (hl d.id (by simp)),devs_ok r d.id z0.1 z0.2 (fun x hx=>hm x (NA _ hx))]
  rfl
theorem R8{data:Int}{e:Qv}{m:ZO}(h:ZN data e=some m):m.v=e.key/\(0<=m.b/\m.b<=data-1)/\(0<=m.t/\m.t<=16777215):=by
 unfold ZN at h
 split at h
 ·rename_i h1
  cases h;have h2:=rd1_in h1.1;have h3:0<=rd1 XU e.val:=h2.1;have h4:=h1.2;refine⟨rfl,⟨Int.ediv_nonneg h3 (by decide),?_⟩,Int.emod_nonneg _ (by decide),?_⟩
  ·show rd1 XU e.val / 16777216<=data-1
   omega
  ·show rd1 XU e.val % 16777216<=16777215
   omega
 ·cases h
theorem mapsP_ok{bs:List UInt8}{data fuel root:Int}{l:List ZO}(h:ZM bs data fuel root=some l):XK data (-1) l=true:=by
 unfold ZM Xw at h;have hs:=Xo bs root 2 fuel;generalize QP bs root 2 fuel=st at*;by_cases hb:st.bad=true
 ·rw[if_pos hb] at h;cases h
 ·rw[if_neg hb] at h;replace h:st.ents.mapM (ZN data)=some l:=h;have hk:=EA (fun e m he=>(R8 he).1) h;refine maps_ok l (-1) (fun x hx=>?_) (by rw[hk];exact hs.1) (fun m hm=>?_)
  ·rw[hk] at hx;have:=hs.2 x hx;omega
  ·obtain⟨e,he,h2⟩:=R9 h m hm;obtain⟨h3,h4,h5⟩:=R8 h2;have h6:=hs.2 e.key (Lc he);exact⟨by omega,h4,h5⟩
theorem VZ{bs:List UInt8}{s:Nat->Int}(h:QZ bs=some s):okS s 11=true/\s 4<=(Jn bs:Int):=by
 unfold QZ at h;cases hp:OC bs 0 1 with
 |none=>rw[hp] at h;cases h
 |some p=>
  rw[hp] at h;replace h:Jh (Jn bs) p=some s:=h;unfold Jh at h;by_cases h1:X9 p=0
  ·rw[if_pos h1] at h;by_cases h2:(Jn bs:Int)<Z8 p 4
   ·rw[if_pos h2] at h;cases h
   ·rw[if_neg h2] at h;cases h;refine⟨?_,by omega⟩
    unfold X9 at h1;by_cases h3:JX p=true
    ·have e:Z8 p=ZT p:=by unfold Z8;rw[if_pos h3]
     rw[e];unfold JX at h3;rw[Nu,Nu] at h3;exact h3.2.1
    ·rw[if_neg h3] at h1;cases h1
  ·rw[if_neg h1] at h;cases h
theorem VA{s:Nat->Int}(h:okS s 11=true):(0<=s 0/\s 0<=2147483647)/\(0<=s 1/\s 1<=16777215)/\(1<=s 2/\s 2<=65536)/\(0<=s 3/\s 3<=65536)/\(2<=s 4/\s 4<=14400):=by
 simp only[okS,Nu,decide_eq_true_iff,true_and] at h;obtain⟨⟨⟨⟨⟨⟨⟨⟨⟨⟨h0,h1⟩,h2⟩,h3⟩,h4⟩,-⟩,-⟩,-⟩,-⟩,-⟩,-⟩:=h;exact⟨h0,h1,h2,h3,h4⟩
theorem Gt{bs:List UInt8}{data fuel:Int}{d t:Qv}{x:Q4}(h:Xz bs data fuel d t=some x):
  x.id=d.key/\x.id<=16777215/\inI x.tx 0 2147483647=true/\inI x.made 0 16777215=true/\inI x.snapped 0 16777215=true/\XK data (-1) x.maps=true:=by
 unfold Xz at h
 split at h
 ·rename_i h1
  cases hm:ZM bs data fuel (rd1 QB t.val) with
  |none=>rw[hm] at h;cases h
  |some l=>
   rw[hm] at h;replace h:(if(l.length:Int)=(rdN QU d.val).getD 0 0 then some (⟨d.key,(rdN QU d.val).getD 1 0,(rdN QU d.val).getD 2 0,(rdN QU d.val).getD 3 0,l⟩:Q4) else none)=some x:=h
   split at h
   ·cases h;have hd:=det_in h1.2.1;refine⟨rfl,h1.1,?_,?_,?_,mapsP_ok hm⟩
    ·exact decide_eq_true hd.2.1
    ·exact decide_eq_true hd.2.2.1
    ·exact decide_eq_true hd.2.2.2
   ·cases h
 ·cases h
theorem mapM_ids{bs:List UInt8}{data fuel:Int}:∀{D T:List Qv} {q:List Q4},Qp D=Qp T->(D.zip T).mapM (fun p=>Xz bs data fuel p.1 p.2)=some q->q.map Q4.id=Qp D
 |[],_,q,_,h=>by simp at h;subst h;rfl
 |_::_,[],_,h,_=>by simp[Qp] at h
 |d::D,t::T,q,hk,h=>by
  have h2:d.key=t.key/\Qp D=Qp T:=by simpa[Qp] using hk
  rw[LF,Lq] at h;dsimp only at h;cases ha:Xz bs data fuel d t with
  |none=>rw[ha] at h;cases h
  |some z=>
   rw[ha] at h;cases hr:(D.zip T).mapM (fun p=>Xz bs data fuel p.1 p.2) with
   |none=>rw[hr] at h;cases h
   |some q2=>
    rw[hr] at h;cases h
    show z.id::q2.map Q4.id=d.key::Qp D
    rw[(Gt ha).1,mapM_ids h2.2 hr]
theorem Dp{bs:List UInt8}{fuel:Int}{p:Xe}{s:Nat->Int}(h:Vf bs fuel=some (p,s)):QZ bs=some s/\Xx p=true/\p.data=s 3:=by
 unfold Vf at h;cases hs:QZ bs with
 |none=>rw[hs] at h;cases h
 |some s'=>
  rw[hs] at h;replace h:(QY bs (s' 5) (s' 6) (s' 3) fuel).map (fun l=>((⟨s' 0,s' 1,s' 2,s' 3,l⟩:Xe),s'))=some (p,s):=h;unfold QY Xw at h;have hD:=Xo bs (s' 6) 3 fuel;generalize QP bs (s' 6) 3 fuel=WD at*;generalize QP bs (s' 5) 1 fuel=WT at*;obtain⟨D,_,_,bd,_⟩:=WD;obtain⟨T,_,_,bt,_⟩:=WT;dsimp only at*;cases bd with
  |true=>cases h
  |false=>
   cases bt with
   |true=>cases h
   |false=>
    simp only[Bool.false_eq_true,if_false,Option.bind_some] at h
    split at h
    ·rename_i hk
     have z4:Qp D=Qp T:=hk.2;rw[Gs] at h;cases hq:(D.zip T).mapM (fun p=>Xz bs (s' 3) fuel p.1 p.2) with
     |none=>rw[hq] at h;cases h
     |some q=>
      rw[hq] at h;simp only[Option.bind_some,ND] at h;have z1:=J7 hq;have z0:=mapM_ids z4 hq
      split at h
      ·rename_i hc
       simp only[Option.map_some,Li,Prod.mk.injEq] at h;obtain⟨rfl,rfl⟩:=h;obtain⟨n0,n1,n2,n3,-⟩:=VA (VZ hs).1;refine⟨rfl,?_,rfl⟩;have hl:q.length<=4096:=by
        rw[z1,List.length_zip];omega
       have z2:(q.map fun d=>d.maps.length).sum<=16384:=by
        rcases hc with hc|hc
        ·exact hc
        ·rw[hc] at z1;have:q=[]:=List.length_eq_zero_iff.1 z1;subst this;simp
       have z3:Yy (s' 3) (-1) q=true:=by
        refine devs_ok q (-1) (fun x hx=>?_) (by rw[z0];exact hD.1) (fun d hd=>?_)
        ·rw[z0] at hx;have:=hD.2 x hx;omega
        ·obtain⟨p,hp,h2⟩:=R9 hq d hd;obtain⟨e1,e2,e3,e4,e5,e6⟩:=Gt h2;refine⟨?_,e3,e4,e5,e6⟩;have:d.id∈Qp D:=by rw[<-z0];exact Lc hd
         exact decide_eq_true ⟨(hD.2 _ this).1,e2⟩
       unfold Xx inI ZL;dsimp only;rw[decide_eq_true n0,decide_eq_true n1,decide_eq_true n2,decide_eq_true n3,decide_eq_true hl,decide_eq_true z2,z3]
       rfl
      ·cases h
    ·cases h
def XE(w:World)(B:Nat)(A:Option Addr)(ls:List ZO):Prop:=
 0<ls.length->∃b o,A=some ⟨b,o,none⟩/\b<B/\∀(j:Nat) x,ls[j]?=some x->w.cell? ⟨b,o+j*3,none⟩=some (.int .i64 x.v)/\w.cell? ⟨b,o+j*3+1,none⟩=some (.int .i64 x.b)/\w.cell? ⟨b,o+j*3+2,none⟩=some (.int .i64 x.t)
section
variable {w w':World} {B B':Nat} {A:Option Addr} {ls:List ZO}
theorem XE.below(h:XE w B A ls)(hb:Below B w w'):XE w' B A ls:=fun hn=>by
 obtain⟨b,o,e,z0,hc⟩:=h hn;refine⟨b,o,e,z0,fun j x hj=>?_⟩
 obtain⟨h1,h2,h3⟩:=hc j x hj;exact⟨(hb.cell (p:=⟨b,o+j*3,none⟩) z0).trans h1,(hb.cell (p:=⟨b,o+j*3+1,none⟩) z0).trans h2,(hb.cell (p:=⟨b,o+j*3+2,none⟩) z0).trans h3⟩
theorem XE.more(h:XE w B A ls)(hB:B<=B'):XE w B' A ls:=fun hn=>by
 obtain⟨b,o,e,hlt,hc⟩:=h hn;exact⟨b,o,e,by omega,hc⟩
theorem XE.ext(h:XE w w.heap.size A ls)(hb:Below w.heap.size w w'):XE w' w'.heap.size A ls:=(h.below hb).more hb.size
end
def mv:List ZO->List Value
 |[]=>[]
 |x::r=> .int .i64 x.v:: .int .i64 x.b:: .int .i64 x.t::mv r
theorem Ev(a b:List ZO):mv (a++b)=mv a++mv b:=by
 induction a with
 |nil=>rfl
 |cons x r ih=>simp[mv,ih]
theorem mv_len(a:List ZO):(mv a).length=a.length*3:=by
 induction a with
 |nil=>rfl
 |cons x r ih=>simp[mv,ih];omega
theorem mv_get(l:List ZO):∀j x,l[j]?=some x->(mv l)[j*3]?=some (.int .i64 x.v)/\(mv l)[j*3+1]?=some (.int .i64 x.b)/\(mv l)[j*3+2]?=some (.int .i64 x.t):=by
 induction l with
 |nil=>intro j x h;simp at h
 |cons y r ih=>
  intro j x h;cases j with
  |zero=>
   simp at h;subst h;exact⟨rfl,rfl,rfl⟩
  |succ j=>
   simp at h;obtain⟨h1,h2,h3⟩:=ih j x h;refine⟨?_,?_,?_⟩
   ·rw[show(j+1)*3=j*3+1+1+1 by omega];simpa[mv] using h1
   ·rw[show(j+1)*3+1=j*3+1+1+1+1 by omega];simpa[mv] using h2
   ·rw[show(j+1)*3+2=j*3+2+1+1+1 by omega];simpa[mv] using h3
theorem XE.of_own{w:World}{base:Nat}{e:TypeId}{A:Option Addr}{n c:Nat}{ls:List ZO}(hn:n=ls.length)(h:w.ownsRow base e 3 (.slice A n c) n (mv ls)):XE w w.heap.size A ls:=fun hp=>by
 rcases h.2 with⟨hv,hz⟩|⟨g,cap,cur,hv,hb,hg,_⟩
 ·omega
 ·injection hv with h1 h2 h3
  subst h1;have hc:=h.cells (g:=g) rfl;refine⟨g,0,rfl,(D0.1 hg).1,fun j p hj=>?_⟩
  obtain⟨t0,t1,t2⟩:=mv_get ls j p hj;have q0:=hc _ _ t0;have q1:=hc _ _ t1;have q2:=hc _ _ t2;rw[Zo,ND] at q0 q1 q2;rw[ND];exact⟨q0,q1,q2⟩
def X5(w:World)(B:Nat)(A:Option Addr)(ls:List Q4):Prop:=
 0<ls.length->∃b o,A=some ⟨b,o,none⟩/\b<B/\∀(j:Nat) x,ls[j]?=some x->w.cell? ⟨b,o+j*5,none⟩=some (.int .i64 x.id)/\w.cell? ⟨b,o+j*5+1,none⟩=some (.int .i64 x.tx)/\w.cell? ⟨b,o+j*5+2,none⟩=some (.int .i64 x.made)/\w.cell? ⟨b,o+j*5+3,none⟩=some (.int .i64 x.snapped)/\
  ∃Aj cj,w.cell? ⟨b,o+j*5+4,none⟩=some (.slice Aj x.maps.length cj)/\XE w B Aj x.maps
section
variable {w w':World} {B B':Nat} {A:Option Addr} {ls:List Q4}
theorem X5.below(h:X5 w B A ls)(hb:Below B w w'):X5 w' B A ls:=fun hn=>by
 obtain⟨b,o,e,z0,hc⟩:=h hn;refine⟨b,o,e,z0,fun j x hj=>?_⟩
 obtain⟨h0,h1,h2,h3,Aj,cj,h4,h5⟩:=hc j x hj;exact⟨(hb.cell (p:=⟨b,o+j*5,none⟩) z0).trans h0,(hb.cell (p:=⟨b,o+j*5+1,none⟩) z0).trans h1,(hb.cell (p:=⟨b,o+j*5+2,none⟩) z0).trans h2,(hb.cell (p:=⟨b,o+j*5+3,none⟩) z0).trans h3,Aj,cj,(hb.cell (p:=⟨b,o+j*5+4,none⟩) z0).trans h4,h5.below hb⟩
theorem X5.more(h:X5 w B A ls)(hB:B<=B'):X5 w B' A ls:=fun hn=>by
 obtain⟨b,o,e,hlt,hc⟩:=h hn;refine⟨b,o,e,by omega,fun j x hj=>?_⟩
 obtain⟨h0,h1,h2,h3,Aj,cj,h4,h5⟩:=hc j x hj;exact⟨h0,h1,h2,h3,Aj,cj,h4,h5.more hB⟩
theorem X5.ext(h:X5 w w.heap.size A ls)(hb:Below w.heap.size w w'):X5 w' w'.heap.size A ls:=(h.below hb).more hb.size
end
def dv:List (Q4×Value)->List Value
 |[]=>[]
 |(x,u)::r=> .int .i64 x.id:: .int .i64 x.tx:: .int .i64 x.made:: .int .i64 x.snapped::u::dv r
theorem dv_append(a b:List (Q4×Value)):dv (a++b)=dv a++dv b:=by
 induction a with
 |nil=>rfl
 |cons x r ih=>obtain⟨x,u⟩:=x;simp[dv,ih]
theorem dv_get(l:List (Q4×Value)):∀j x u,l[j]?=some (x,u)->(dv l)[j*5]?=some (.int .i64 x.id)/\(dv l)[j*5+1]?=some (.int .i64 x.tx)/\(dv l)[j*5+2]?=some (.int .i64 x.made)/\(dv l)[j*5+3]?=some (.int .i64 x.snapped)/\(dv l)[j*5+4]?=some u:=by
 induction l with
 |nil=>intro j x u h;simp at h
 |cons y r ih=>
  obtain⟨y,z⟩:=y;intro j x u h;cases j with
  |zero=>
   simp at h;obtain⟨rfl,rfl⟩:=h;exact⟨rfl,rfl,rfl,rfl,rfl⟩
  |succ j=>
   simp at h;obtain⟨h0,h1,h2,h3,h4⟩:=ih j x u h;refine⟨?_,?_,?_,?_,?_⟩
   ·rw[show(j+1)*5=j*5+1+1+1+1+1 by omega];simpa[dv] using h0
   ·rw[show(j+1)*5+1=j*5+1+1+1+1+1+1 by omega];simpa[dv] using h1
   ·rw[show(j+1)*5+2=j*5+2+1+1+1+1+1 by omega];simpa[dv] using h2
   ·rw[show(j+1)*5+3=j*5+3+1+1+1+1+1 by omega];simpa[dv] using h3
   ·rw[show(j+1)*5+4=j*5+4+1+1+1+1+1 by omega];simpa[dv] using h4
def Qt(w:World)(base:Nat)(v:Value)(ls:List Q4):Prop:=
 ∃us:List (Q4×Value),us.map Prod.fst=ls/\w.ownsRow base 49 5 v ls.length (dv us)/\∀x u,(x,u)∈us->w.ownsRow base 52 3 u x.maps.length (mv x.maps)
theorem Qt.nil(w:World)(base:Nat):Qt w base (.slice none 0 0) []:=⟨[],rfl,Nb _ _ _ _,fun x u h=>by cases h⟩
theorem Qt.kept{w w':World}{base:Nat}{v:Value}{ls:List Q4}(h:Qt w base v ls){row:Option Nat}(hg:w.grownBy w' row)(hr:∀e,e=49∨e=52->∀(u:Value) s n xs,w.ownsRow base e s u n xs->u.ownBlock=none∨u.ownBlock≠row):Qt w' base v ls:=by
 obtain⟨us,h1,h2,h3⟩:=h;exact⟨us,h1,h2.kept hg (hr _ (.inl rfl) _ _ _ _ h2),fun x u hx=>(h3 x u hx).kept hg (hr _ (.inr rfl) _ _ _ _ (h3 x u hx))⟩
theorem Qt.keep{w w':World}{base:Nat}{v:Value}{ls:List Q4}(h:Qt w base v ls)(hb:Below w.heap.size w w'):Qt w' base v ls:=by
 obtain⟨us,h1,h2,h3⟩:=h;exact⟨us,h1,Qk h2 hb,fun x u hx=>Qk (h3 x u hx) hb⟩
theorem Qt.mono{w:World}{base base':Nat}{v:Value}{ls:List Q4}(h:Qt w base v ls)(hb:base'<=base):Qt w base' v ls:=by
 obtain⟨us,h1,h2,h3⟩:=h;exact⟨us,h1,QO h2 hb,fun x u hx=>QO (h3 x u hx) hb⟩
theorem Qt.form{w:World}{base:Nat}{v:Value}{ls:List Q4}(h:Qt w base v ls):∃A c,v= .slice A ls.length c:=by
 obtain⟨us,h1,h2,h3⟩:=h;exact QI h2
theorem Qt.devs{w:World}{base:Nat}{A:Option Addr}{n c:Nat}{ls:List Q4}(h:Qt w base (.slice A n c) ls):X5 w w.heap.size A ls:=fun hp=>by
 obtain⟨us,rfl,h,h3⟩:=h;rcases h.2 with⟨hv,hz⟩|⟨g,cap,cur,hv,hb,hg,_⟩
 ·rw[NN] at hp hz;omega
 ·injection hv with h1 h2 h4
  subst h1;subst h2;have hc:=h.cells (g:=g) rfl;refine⟨g,0,rfl,(D0.1 hg).1,fun j p hj=>?_⟩
  rw[Lx] at hj;cases hu:us[j]? with
  |none=>rw[hu] at hj;cases hj
  |some y=>
   obtain⟨x,u⟩:=y;rw[hu] at hj;cases hj;obtain⟨t0,t1,t2,t3,t4⟩:=dv_get us j x u hu;have q0:=hc _ _ t0;have q1:=hc _ _ t1;have q2:=hc _ _ t2;have q3:=hc _ _ t3;have q4:=hc _ _ t4;rw[Zo,ND] at q0 q1 q2 q3 q4;rw[ND];have hx:=h3 x u (List.mem_of_getElem? hu);obtain⟨Aj,cj,rfl⟩:=QI hx;exact⟨q0,q1,q2,q3,Aj,cj,q4,XE.of_own rfl hx⟩
def Yc(p:Xe)(A:Option Addr)(c:Nat):Value:= .agg #[.int .i64 p.tx, .int .i64 p.time, .int .i64 p.unit_, .int .i64 p.data, .slice A p.devs.length c]
def QH(tree:Int)(leaf:Bool)(l:List Qv):QF:=⟨tree,leaf,l.map Qv.key,l.map Qv.val⟩
def Zc(bs:List UInt8):Option (Xe×(Nat->Int)):=
 (Vf bs 1000000).bind fun x=>(Xu bs (x.2 7) (x.2 8) (x.2 3) 1000000).bind fun a=>(X3 bs (x.2 9) (x.2 10) (x.2 4) 1000000).bind fun b=>(XJ bs x.2).bind fun c=>
  if(Zl a (Yk x.1)).length=0/\(Zl b c).length=0 then some x else none
def RY:Xe:=⟨0,0,1,9,[⟨1,0,0,0,[⟨3,4,5⟩]⟩]⟩
theorem Vy(n lo hi:Int)(w:World):Calls prog 38 #[.int .i64 n, .int .i64 lo, .int .i64 hi] w fun e w'=>e= .returned (.bool (inI n lo hi))/\w=w':=by
 by_cases h0:lo<=n
 ·by_cases h1:n<=hi
  ·have hv:inI n lo hi=true:=decide_eq_true ⟨h0,h1⟩;have d0:decide (lo<=n)=true:=decide_eq_true h0;have d1:decide (n<=hi)=true:=decide_eq_true h1;rw[hv];clear hv h0 h1;go_enter func38,ntmps38
   go_wp2;go_ret;exact⟨rfl,rfl⟩
  ·have hv:inI n lo hi=false:=decide_eq_false (fun h=>h1 h.2);have d0:decide (lo<=n)=true:=decide_eq_true h0;have d1:decide (n<=hi)=false:=decide_eq_false h1;rw[hv];clear hv h0 h1;go_enter func38,ntmps38
   go_wp2;go_ret;exact⟨rfl,rfl⟩
 ·have hv:inI n lo hi=false:=decide_eq_false (fun h=>h0 h.1);have d0:decide (lo<=n)=false:=decide_eq_false h0;rw[hv];clear hv h0;go_enter func38,ntmps38
  go_wp2;go_ret;exact⟨rfl,rfl⟩
theorem times1_any(n:Int)(w:World):Calls prog 82 #[.int .i64 n] w fun e w'=>e= .returned (.bool (!inI n 0 16777215))/\w=w':=by
 have k:=Vy n 0 16777215 w;generalize inI n 0 16777215=b at*;go_enter func82,ntmps82
 go_wp2_with fail
 refine k.mono ?_;rintro e w2 ⟨rfl,rfl⟩;clear k;go_wp2;go_ret;exact⟨rfl,rfl⟩
def UY(p:Int->Bool)(l:List Int):Bool:=l.all fun n=>!p n
theorem allP_no(p:Int->Bool)(l:List Int)(k:Nat)(n:Int)(hb:l[k]?=some n)(hn:p n=true):UY p l=false:=by
 unfold UY;rw[LM];exact⟨n,List.mem_of_getElem? hb,by rw[hn];simp⟩
theorem allP_yes(p:Int->Bool)(l:List Int)(h:∀j,j<l.length->∀n,l[j]?=some n->p n=false):UY p l=true:=by
 unfold UY;rw[NX];intro b hb;obtain⟨j,hj,rfl⟩:=LP hb;rw[h j hj _ (D1 hj)]
 rfl
theorem idxP_any(p:Int->Bool)(hF:∀n W,Calls prog 82 #[.int .i64 n] W fun e w'=>e= .returned (.bool (p n))/\W=w')(A:Option Addr)(c:Nat)(l:List Int)(w:World)(B:Nat)(hm:l.length*8<=reachBytes)(h:Qh w B A (iv l)):
  Calls prog 147 #[.slice A l.length c, .func (.func 82) #[] #[]] w fun e w'=>∃r:Int,e= .returned (.int .i64 r)/\decide (0<=r)=!UY p l/\w=w':=by
 simp only[reachBytes] at hm;have HF:=DY hF;clear hF;go_enter func147,ntmps147
 go_wp2_with fail
 go_loop [8] (fun i=>∃k:Nat,k<=l.length/\i= .int .i64 k/\∀j,j<k->∀n,l[j]?=some n->p n=false) (fun i=>l.length-(intOf i).toNat)
 case atStart=>exact⟨0,by omega,rfl,by intro j hj;omega⟩
 case round=>
  obtain⟨k,hk,rfl,hz⟩:=hrel;have HZ:=DY hz;clear hz;by_cases hlt:k<l.length
  ·obtain⟨ad,rfl,_,hc⟩:=h.num hlt;have HB:=DY (show l[k]?=some l[k] from D1 hlt);have z0:=HF.out l[k];cases hx:p l[k] with
   |false=>
    rw[hx] at z0;have HX:=Lib.hid hx;clear hx;generalize l[k]=x at*;go_wp2_with fail
    refine(z0 _).mono ?_;rintro e w1 ⟨rfl,rfl⟩;clear z0;go_wp2;go_round
    case rel=>exact⟨k+1,by omega,by go_num,fun j hj n hn=>by
     rcases NC j k with h1|h1
     ·exact HZ j h1 n hn
     ·obtain rfl:j=k:=by omega
      have:=HB.out;rw[this] at hn
      injection hn with hn
      rw[<-hn];exact HX.out⟩
    case measure=>simp[intOf];omega
   |true=>
    rw[hx] at z0;have HA:=Lib.hid (allP_no p l k _ HB hx);clear hx;generalize l[k]=x at*;go_wp2_with fail
    refine(z0 _).mono ?_;rintro e w1 ⟨rfl,rfl⟩;clear z0;go_wp2;go_ret;exact⟨k,rfl,by rw[HA.out];simp,rfl⟩
  ·obtain rfl:k=l.length:=by omega
   have HA:=DY (allP_yes p l (fun j hj=>HZ.out j hj));go_wp2;go_ret;exact⟨-1,rfl,by rw[HA.out];rfl,rfl⟩
theorem cfiP_any(p:Int->Bool)(hF:∀n W,Calls prog 82 #[.int .i64 n] W fun e w'=>e= .returned (.bool (p n))/\W=w')(A:Option Addr)(c:Nat)(l:List Int)(w:World)(B:Nat)(hm:l.length*8<=reachBytes)(h:Qh w B A (iv l)):
  Calls prog 81 #[.slice A l.length c, .func (.func 82) #[] #[]] w fun e w'=>e= .returned (.bool (!UY p l))/\w=w':=by
 have K:=idxP_any p hF A c l w B hm h;clear hF h;go_enter func81,ntmps81
 go_wp2_with fail
 refine K.mono ?_;rintro e w1 ⟨r,rfl,hr,rfl⟩;have HR:=DY hr;clear hr;go_wp2;go_ret;exact⟨RR HR,rfl⟩
def JN(tx:Int)(l:List Int):Bool:=inI tx 0 2147483647&&UY (fun t=>!inI t 0 16777215) l
theorem G7(tx:Int)(A:Option Addr)(c:Nat)(l:List Int)(w:World)(B:Nat)(hm:l.length*8<=reachBytes)(h:Qh w B A (iv l)):
  Calls prog 37 #[.int .i64 tx, .slice A l.length c] w fun e w'=>e= .returned (.bool (JN tx l))/\w=w':=by
 have k:=Vy tx 0 2147483647 w;have k2:=cfiP_any _ times1_any A c l w B hm h;unfold JN;clear hm h;generalize UY (fun t=>!inI t 0 16777215) l=b2 at*;cases hb:inI tx 0 2147483647 with
 |false=>
  rw[hb] at k;clear hb k2;go_enter func37,ntmps37
  go_wp2_with fail
  refine k.mono ?_;rintro e w2 ⟨rfl,rfl⟩;clear k;go_wp2;go_ret;exact⟨rfl,rfl⟩
 |true=>
  rw[hb] at k;clear hb;go_enter func37,ntmps37
  go_wp2_with fail
  refine k.mono ?_;rintro e w2 ⟨rfl,rfl⟩;clear k;go_wp2_with fail
  refine k2.mono ?_;rintro e w2 ⟨rfl,rfl⟩;clear k2;cases b2<;>(go_wp2;go_ret;exact⟨rfl,rfl⟩)
theorem mapsOk_cons(data last:Int)(m:ZO)(r:List ZO):XK data last (m::r)=(inI m.v 0 281474976710655&&(inI m.b 0 (data-1)&&(inI m.t 0 16777215&&(decide (last<m.v)&&XK data m.v r)))):=rfl
theorem mapped_any(A:Option Addr)(c:Nat)(l:List ZO)(data:Int)(w:World)(hm:l.length<=1000000000)(hd0:0<=data)(hd:data<=65536)(h:XE w w.heap.size A l):
  Calls prog 41 #[.slice A l.length c, .int .i64 data] w fun e w'=>∃r:Int,e= .returned (.int .i64 r)/\decide (r=0)=XK data (-1) l/\Below w.heap.size w w':=by
 obtain⟨q,hq⟩:=DR (XK data (-1) l);rw[<-hq];have HQ:=DY hq;have HM:=DY h;obtain⟨dm,z3⟩:=DR (data-1);have hw1:wrap64 (data-1)=dm:=by rw[z3];unfold wrap64;omega
 clear hq h hd0 hd;have z5:=DY z3;clear z3;go_enter func41,ntmps41
 go_wp2_with fail
 go_loopw [5,10] (fun la i wr=>∃(k:Nat) (z0:Int),k<=l.length/\i= .int .i64 k/\la= .int .i64 z0/\Hid (Below w.heap.size w wr/\q=XK data z0 (l.drop k))) (fun la i _=>l.length-(intOf i).toNat)
 case atStart=>exact⟨0,-1,by omega,rfl,rfl,DY ⟨D6 _ _,by rw[HQ.out,Lw]⟩⟩
 case round=>
  obtain⟨k,z0,hk,rfl,rfl,HH⟩:=hrel;by_cases hlt:k<l.length
  ·obtain⟨b,o,rfl,hb',hc⟩:=(HM.out.below HH.out.1) (by omega);obtain⟨e0,e1,e2⟩:=hc k _ (D1 hlt);have HE:=DY (show q=_ from HH.out.2.trans (by rw[NO hlt,mapsOk_cons]));rw[<-z5.out] at HE;obtain⟨wa,z1⟩:=DR (wr.alloc (.cells #[.int .i64 l[k].v, .int .i64 l[k].b, .int .i64 l[k].t] 52));have z4:Below w.heap.size w wa:=by rw[z1];exact Qb HH.out.1 (Qd wr _)
   have c0:wa.cell? ⟨wr.heap.size,0,none⟩=some (.int .i64 l[k].v):=by rw[z1];exact Qa (heap_alloc_new wr _) 0 rfl
   have c1:wa.cell? ⟨wr.heap.size,1,none⟩=some (.int .i64 l[k].b):=by rw[z1];exact Qa (heap_alloc_new wr _) 1 rfl
   have c2:wa.cell? ⟨wr.heap.size,2,none⟩=some (.int .i64 l[k].t):=by rw[z1];exact Qa (heap_alloc_new wr _) 2 rfl
   have z2:=DY z4;clear z4 hc hb';generalize l[k].v=x0 at*;generalize l[k].b=x1 at*;generalize l[k].t=x2 at*;have K0:=Vy x0 0 281474976710655 wa;have K1:=Vy x1 0 dm wa;have K2:=Vy x2 0 16777215 wa;generalize inI x0 0 281474976710655=b0 at*;generalize inI x1 0 dm=b1 at*;generalize inI x2 0 16777215=b2 at*;go_upto_region 5 with fail
   rw[show wr.alloc (.cells #[.int .i64 x0, .int .i64 x1, .int .i64 x2] 52)=wa from z1.symm]
   clear z1 e0 e1 e2;cases b0 with
   |false=>
    clear K1 K2;go_wp2_with fail
    refine K0.mono ?_;rintro e w2 ⟨rfl,rfl⟩;clear K0;go_wp2;go_ret;exact⟨2,rfl,by rw[HE.out];rfl,z2.out⟩
   |true=>
    cases b1 with
    |false=>
     clear K2;go_wp2_with fail
     refine K0.mono ?_;rintro e w2 ⟨rfl,rfl⟩;clear K0;go_wp2_with fail
     refine K1.mono ?_;rintro e w2 ⟨rfl,rfl⟩;clear K1;go_wp2;go_ret;exact⟨2,rfl,by rw[HE.out];rfl,z2.out⟩
    |true=>
     go_wp2_with fail
     refine K0.mono ?_;rintro e w2 ⟨rfl,rfl⟩;clear K0;go_wp2_with fail
     refine K1.mono ?_;rintro e w2 ⟨rfl,rfl⟩;clear K1;cases b2 with
     |false=>
      go_wp2_with fail
      refine K2.mono ?_;rintro e w2 ⟨rfl,rfl⟩;clear K2;go_wp2;go_ret;exact⟨2,rfl,by rw[HE.out];rfl,z2.out⟩
     |true=>
      go_wp2_with fail
      refine K2.mono ?_;rintro e w2 ⟨rfl,rfl⟩;clear K2;by_cases hle:x0<=z0
      ·have d1:decide (x0<=z0)=true:=decide_eq_true hle;have HF:=DY (show q=false by rw[HE.out,decide_eq_false (show¬z0<x0 by omega)];rfl);clear hle;go_wp2;go_ret;exact⟨8,rfl,by rw[HF.out];rfl,z2.out⟩
      ·have d1:decide (x0<=z0)=false:=decide_eq_false hle;have HF:=DY (show q=XK data x0 (l.drop (k+1)) by rw[HE.out,decide_eq_true (show z0<x0 by omega)];rfl);clear hle;go_wp2;go_roundw
       case rel=>exact⟨k+1,x0,by omega,by go_num,rfl,DY ⟨z2.out,HF.out⟩⟩
       case measure=>simp[intOf];omega
  ·obtain rfl:k=l.length:=by omega
   go_wp2;go_ret;exact⟨0,rfl,by rw[HH.out.2,LD];rfl,HH.out.1⟩
def devV(d:Q4)(A:Option Addr)(c:Nat):Value:= .agg #[.int .i64 d.id, .int .i64 d.tx, .int .i64 d.made, .int .i64 d.snapped, .slice A d.maps.length c]
def devB(d:Q4):Bool:=inI d.id 0 16777215&&(inI d.tx 0 2147483647&&(inI d.made 0 16777215&&inI d.snapped 0 16777215))
theorem pdevice_any(d:Q4)(A:Option Addr)(c:Nat)(last:Int)(w:World):
  Calls prog 40 #[devV d A c, .int .i64 last] w fun e w'=>∃r:Int,e= .returned (.int .i64 r)/\decide (r=0)=(devB d&&decide (last<d.id))/\Below w.heap.size w w':=by
 obtain⟨wa,z1,z2,-⟩:=DS w (.cells #[.int .i64 d.id, .int .i64 d.tx, .int .i64 d.made, .int .i64 d.snapped, .slice A d.maps.length c] 49);have c0:wa.cell? ⟨w.heap.size,0,none⟩=some (.int .i64 d.id):=by rw[z1];exact Qa (heap_alloc_new w _) 0 rfl
 have c1:wa.cell? ⟨w.heap.size,1,none⟩=some (.int .i64 d.tx):=by rw[z1];exact Qa (heap_alloc_new w _) 1 rfl
 have c2:wa.cell? ⟨w.heap.size,2,none⟩=some (.int .i64 d.made):=by rw[z1];exact Qa (heap_alloc_new w _) 2 rfl
 have c3:wa.cell? ⟨w.heap.size,3,none⟩=some (.int .i64 d.snapped):=by rw[z1];exact Qa (heap_alloc_new w _) 3 rfl
 have K0:=Vy d.id 0 16777215 wa;have HQ:=DY (show devB d=(inI d.id 0 16777215&&JN d.tx [d.made,d.snapped]) by unfold devB JN UY;simp);unfold devV;have z3:=DY z2;clear z2;generalize devB d=q at*;generalize d.id=x0 at*;generalize d.tx=x1 at*;generalize d.made=x2 at*;generalize d.snapped=x3 at*;generalize d.maps.length=n at*;have KT:=G7 x1 (some ⟨wa.heap.size,0,none⟩) 2 [x2,x3] (wa.alloc (.cells #[.int .i64 x2, .int .i64 x3] 3)) _ (by simp[reachBytes]) (Qh.new wa (iv [x2,x3]) 3 (0,0));have z0:=DY (Qb z3 (Qd wa (.cells #[.int .i64 x2, .int .i64 x3] 3)));generalize inI x0 0 16777215=b0 at*;generalize JN x1 [x2,x3]=b1 at*;go_enter func40,ntmps40
 go_upto_region 1 with fail
 rw[show w.alloc (.cells #[.int .i64 x0, .int .i64 x1, .int .i64 x2, .int .i64 x3, .slice A n c] 49)=wa from z1.symm]
 clear z1;cases b0 with
 |false=>
  clear KT;go_wp2_with fail
  refine K0.mono ?_;rintro e w2 ⟨rfl,rfl⟩;clear K0;go_wp2;go_ret;exact⟨2,rfl,by rw[HQ.out];rfl,z3.out⟩
 |true=>
  go_wp2_with fail
  refine K0.mono ?_;rintro e w2 ⟨rfl,rfl⟩;clear K0;cases b1 with
  |false=>
   go_wp2_with fail
   refine KT.mono ?_;rintro e w2 ⟨rfl,rfl⟩;clear KT;go_wp2;go_ret;exact⟨2,rfl,by rw[HQ.out];rfl,z0.out⟩
  |true=>
   have c0':=Qg (Qd wa (.cells #[.int .i64 x2, .int .i64 x3] 3)) c0;by_cases hle:x0<=last
   ·have d1:decide (x0<=last)=true:=decide_eq_true hle;have HF:=Lib.hid (show(q&&decide (last<x0))=false by rw[decide_eq_false (show¬last<x0 by omega)];simp);clear hle;go_wp2_with fail
    refine KT.mono ?_;rintro e w2 ⟨rfl,rfl⟩;clear KT;go_wp2;go_ret;exact⟨8,rfl,by rw[HF.out];rfl,z0.out⟩
   ·have d1:decide (x0<=last)=false:=decide_eq_false hle;have HF:=Lib.hid (show(q&&decide (last<x0))=true by rw[HQ.out,decide_eq_true (show last<x0 by omega)];rfl);clear hle;go_wp2_with fail
    refine KT.mono ?_;rintro e w2 ⟨rfl,rfl⟩;clear KT;go_wp2;go_ret;exact⟨0,rfl,by rw[HF.out];rfl,z0.out⟩
def Uh(l:List Q4)(k:Nat):Nat:=((l.take k).map fun d=>d.maps.length).sum
theorem Od(l:List Q4)(k:Nat)(h:k<l.length):Uh l (k+1)=Uh l k+l[k].maps.length:=by
 unfold Uh;rw[Nl h,Ns,LJ];simp
theorem cntTo_all(l:List Q4):Uh l l.length=(l.map fun d=>d.maps.length).sum:=by unfold Uh;rw[Nw]
theorem cntTo_le(l:List Q4)(k:Nat):Uh l k<=(l.map fun d=>d.maps.length).sum:=by
 unfold Uh
 conv=>rhs;rw[<-N0 k l,Ns,LJ]
 omega
theorem RZ(p:Xe)(A:Option Addr)(c:Nat)(w:World)(hm:p.devs.length<=1000000000)(hs:ZL p<=1000000000000000000)(h:X5 w w.heap.size A p.devs):
  Calls prog 39 #[Yc p A c] w fun e w'=>e= .returned (.int .i64 (ZL p:Nat))/\Below w.heap.size w w':=by
 obtain⟨wa,z2,z3,-⟩:=DS w (.cells #[.int .i64 p.tx, .int .i64 p.time, .int .i64 p.unit_, .int .i64 p.data, .slice A p.devs.length c] 28);have c4:wa.cell? ⟨w.heap.size,4,none⟩=some (.slice A p.devs.length c):=by rw[z2];exact Qa (heap_alloc_new w _) 4 rfl
 have HM:=DY h;have z4:=DY z3;have z0:=DY (show ZL p=Uh p.devs p.devs.length from(cntTo_all p.devs).symm);have z5:=DY (fun k=>D3 (cntTo_le p.devs k) hs);rw[z0.out];unfold Yc;clear h z3 hs;generalize p.tx=x0 at*;generalize p.time=x1 at*;generalize p.unit_=x2 at*;generalize p.data=x3 at*;clear z0;generalize p.devs=l at*;go_enter func39,ntmps39
 go_upto_region 1 with fail
 rw[show w.alloc (.cells #[.int .i64 x0, .int .i64 x1, .int .i64 x2, .int .i64 x3, .slice A l.length c] 28)=wa from z2.symm]
 clear z2;go_wp2_with fail
 go_loopw [3,9] (fun sm i wr=>∃k:Nat,k<=l.length/\i= .int .i64 k/\sm= .int .i64 (Uh l k:Nat)/\Hid (Below w.heap.size w wr)) (fun sm i _=>l.length-(intOf i).toNat)
 case atStart=>exact⟨0,by omega,rfl,rfl,z4⟩
 case round=>
  obtain⟨k,hk,rfl,rfl,HH⟩:=hrel;by_cases hlt:k<l.length
  ·obtain⟨b,o,rfl,hb',hc⟩:=(HM.out.below HH) (by omega);obtain⟨e0,e1,e2,e3,Aj,cj,e4,-⟩:=hc k _ (D1 hlt);have HN:=DY (Od l k hlt);have z1:=z5.out (k+1);rw[HN.out] at z1;generalize l[k].id=y0 at*;generalize l[k].tx=y1 at*;generalize l[k].made=y2 at*;generalize l[k].snapped=y3 at*;generalize l[k].maps.length=y4 at*;generalize Uh l k=s0 at*;have hwr:IntKind.i64.wrap ((s0:Int)+(y4:Int))=((s0+y4:Nat):Int):=by rw[Nv];omega
   have z6:=DY (Qb HH (Qd wr (.cells #[.int .i64 y0, .int .i64 y1, .int .i64 y2, .int .i64 y3, .slice Aj y4 cj] 49)));clear hc hb';go_wp2;go_roundw
   case rel=>exact⟨k+1,by omega,by go_num,by rw[HN.out];go_num,z6⟩
   case measure=>simp[intOf];omega
  ·obtain rfl:k=l.length:=by omega
   go_wp2;go_ret;exact⟨rfl,HH.out⟩
end Go.Proofs.YtijcgllddnpmhaaGreatDoor
