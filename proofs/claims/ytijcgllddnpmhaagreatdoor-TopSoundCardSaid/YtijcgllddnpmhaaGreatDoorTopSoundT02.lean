/- TopSound: lemmas, part 2. -/
import Derived.Test.YtijcgllddnpmhaaGreatDoorTopSoundT00
import Derived.Deep.RegionHeld3
import Derived.Deep.DrawnRows
import Derived.Deep.RegionLaw
import Derived.BigRegion
import Derived.OwnWalkIn
import Derived.TacticsInMore
import Derived.RangeFuncIn
import Derived.RangeFuncCalls
import Derived.Deep.RegionHeld
set_option maxRecDepth 100000
set_option maxHeartbeats 16000000
set_option linter.all false
namespace Go.Proofs.YtijcgllddnpmhaaGreatDoor
open Go.RowKit Go.Proofs.Tryz
theorem own_base{w:World}{base g n cap:Nat}{e:TypeId}{xs:List Value}(h:w.ownsRow base e 1 (.slice (some ⟨g,0,none⟩) n cap) n xs):base<=w.heap.size:=by
 have:=h.lt g rfl;omega
section
variable {P:Program}
theorem XY(w:World)(dT sT ty e:TypeId)(hu:P.underlying dT=some (.slice e))(hsz:(P.info? e).map (·.size)=some 1)
  (base g n cap:Nat) (xs:List Value) (hown:w.ownsRow base e 1 (.slice (some ⟨g,0,none⟩) n cap) n xs) (off:Nat) (hoff:off<=n)
  (dp:Option Addr) (dLen dCap:Nat) (hdl:dLen=n-off) (hdp:off<n->dp=some ⟨g,off,none⟩)
  (B:Nat) (A:Option Addr) (m c:Nat) (news:List Value) (hm:m=news.length) (hr:Qh w B A news) (h1:∀u∈news,u.oneCell'=true):
  ∃w',(Builtin.copy_ #[dT,sT] ty #[.slice dp dLen dCap, .slice A m c]).run P w= .ok (goInt (min m (n-off):Nat)) w'/\
   w'.ownsRow base e 1 (.slice (some ⟨g,0,none⟩) n cap) n (xs.take off++(news.take (n-off)++xs.drop (off+news.length)))/\w.grownBy w' (some g)/\w'.heap.size=w.heap.size:=by
 subst hm hdl;have z6:=hown.1;simp only[NE] at z6;rcases N6 (min news.length (n-off)) with h0|h0
 ·have z2:=run_copy_none (P:=P) w dT sT ty e dp A (n-off) dCap news.length c hu hsz (by simpa[Nat.min_def] using h0);refine⟨w,by rw[z2,h0];rfl,?_,NT w _,rfl⟩
  have he:xs.take off++(news.take (n-off)++xs.drop (off+news.length))=xs:=by
   rcases N6 news.length with hz|hz
   ·have:news=[]:=NL hz;subst this;simp
   ·have:n-off=0:=by omega
    rw[this,NW (by omega),Lh (by omega)];simp
  rw[he];exact hown
 ·obtain⟨ad,rfl,_,hc⟩:=hr (by omega);obtain rfl:=hdp (by omega);rcases hown.2 with⟨h',_⟩|⟨g',cap',z1,h',hb,hg,z8,z9,zb,z0⟩
  ·cases h'
  ·simp only[Value.slice.injEq,Li,Addr.mk.injEq,and_true,true_and] at h';obtain⟨rfl,rfl⟩:=h';simp only[Nat.mul_one] at zb z0;obtain⟨cs,hcs'⟩:=DR (news.take (n-off));have z3:cs.length=min news.length (n-off):=by rw[hcs',Ni,Nat.min_comm]
   have za:xs.drop (off+news.length)=xs.drop (off+cs.length):=by
    rcases Nat.le_total news.length (n-off) with z5|z5
    ·rw[z3,LV z5]
    ·rw[z3,Nat.min_eq_right z5,Lh (by omega),Lh (by omega)]
   have z2:=run_copy_row (P:=P) w dT sT ty e g off (n-off) dCap ad news.length c z1 e cs hu hsz hg z3 (fun j v hj=>hc j v (by
    rw[hcs',Ls] at hj
    split at hj
    ·exact hj
    ·cases hj)) (by omega) (fun v hv=>h1 v (by rw[hcs'] at hv;exact Ln hv))
   rw[<-hcs',za];have z4:z1.toList=xs++z1.toList.drop n:=by rw[<-z0,N0]
   have hL:(z1.toList.take off++cs++z1.toList.drop (off+cs.length))=(xs.take off++(cs++xs.drop (off+cs.length)))++z1.toList.drop n:=by
    conv=>lhs;rw[z4]
    rw[N4 (by omega),List.drop_append_of_le_length (by omega)];simp
   have z7:(xs.take off++(cs++xs.drop (off+cs.length))).length=n:=by
    simp only[D7,Ni,Nq];omega
   refine⟨_,by rw[<-z3];exact z2,⟨by rw[z7,NE], .inr ⟨g,cap,_,rfl,hb,setRow_heap w g z1 _ e _ hg,z8,z9,?_,?_⟩⟩,⟨rfl,rfl,rfl,by simp,fun k _ hk=>setRow_other w g k _ (fun e=>hk (by rw[e]))⟩,by simp⟩
   ·rw[hL,Ny,D7,z7,Nq,Ly,NE];omega
   ·rw[hL,NE,N4 (by omega),NW (by omega)]
theorem Rs{ops:Array Oper}{rest:List Oper}{o:Oper}{a:Act}{w:World}{Q:Exit->Act->World->Prop}(hgd:o.guard=none)(d s:Operand)(dT sT:TypeId)
  (ho:o.op= .call {callee:= .builtin .copy,args:=#[d,s],argTypes:=#[dT,sT]}) (e:TypeId) (hu:P.underlying dT=some (.slice e)) (hsz:(P.info? e).map (·.size)=some 1)
  (base g n cap:Nat) (xs:List Value) (hown:w.ownsRow base e 1 (.slice (some ⟨g,0,none⟩) n cap) n xs) (off:Nat) (hoff:off<=n)
  (dp:Option Addr) (dLen dCap:Nat) (hd:a.eval d= .slice dp dLen dCap) (hdl:dLen=n-off) (hdp:off<n->dp=some ⟨g,off,none⟩)
  (B:Nat) (A:Option Addr) (m c:Nat) (news:List Value) (hs:a.eval s= .slice A m c) (hm:m=news.length) (hr:Qh w B A news) (h1:∀u∈news,u.oneCell'=true) (hbase:base<=w.heap.size)
  (h:∀w',w'.ownsRow base e 1 (.slice (some ⟨g,0,none⟩) n cap) n (xs.take off++(news.take (n-off)++xs.drop (off+news.length)))->w.grownBy w' (some g)->Below base w w'->w'.heap.size=w.heap.size->
   wpList P ops Q rest (a.put o.dst (goInt (min m (n-off):Nat))) w'):wpList P ops Q (o::rest) a w:=by
 refine wpList_plain hgd fun K hK=>?_
 obtain⟨w',z0,h2,h3,h4⟩:=XY (P:=P) w dT sT o.type e hu hsz base g n cap xs hown off hoff dp dLen dCap hdl hdp B A m c news hm hr h1;unfold Oper.wp;simp[execOp,ho,resolve,invoke,builtin,hd,hs,z0,Result.andThen];exact hK _ _ (h w' h2 h3 (ZF hown hbase h3) h4)
theorem E7{ops:Array Oper}{o:Oper}{a:Act}{w:World}{K:Act->World->Prop}{Q:Exit->Act->World->Prop}{E:Prop}(hgd:o.guard=none)(d s:Operand)(dT sT:TypeId)
  (ho:o.op= .call {callee:= .builtin .copy,args:=#[d,s],argTypes:=#[dT,sT]}) (e:TypeId) (hu:P.underlying dT=some (.slice e)) (hsz:(P.info? e).map (·.size)=some 1)
  (base g n cap:Nat) (xs:List Value) (hown:w.ownsRow base e 1 (.slice (some ⟨g,0,none⟩) n cap) n xs) (off:Nat) (hoff:off<=n)
  (dp:Option Addr) (dLen dCap:Nat) (hd:a.eval d= .slice dp dLen dCap) (hdl:dLen=n-off) (hdp:off<n->dp=some ⟨g,off,none⟩)
  (B:Nat) (A:Option Addr) (m c:Nat) (news:List Value) (hs:a.eval s= .slice A m c) (hm:m=news.length) (hr:Qh w B A news) (h1:∀u∈news,u.oneCell'=true) (hbase:base<=w.heap.size)
  (h:∀w',w'.ownsRow base e 1 (.slice (some ⟨g,0,none⟩) n cap) n (xs.take off++(news.take (n-off)++xs.drop (off+news.length)))->w.grownBy w' (some g)->Below base w w'->w'.heap.size=w.heap.size->
   K (a.put o.dst (goInt (min m (n-off):Nat))) w'):if Region.wanted o (yielded ops a.tmps)=true then Oper.wp P o a w K Q else E:=by
 have hw:Region.wanted o (yielded ops a.tmps)=true:=by simp[Region.wanted,hgd]
 rw[if_pos hw];obtain⟨w',z0,h2,h3,h4⟩:=XY (P:=P) w dT sT o.type e hu hsz base g n cap xs hown off hoff dp dLen dCap hdl hdp B A m c news hm hr h1;unfold Oper.wp;simp[execOp,ho,resolve,invoke,builtin,hd,hs,z0,Result.andThen];exact h w' h2 h3 (ZF hown hbase h3) h4
end
theorem QI{w:World}{base n s:Nat}{e:TypeId}{v:Value}{xs:List Value}(h:w.ownsRow base e s v n xs):∃A c,v= .slice A n c:=by
 rcases h.2 with⟨rfl,rfl⟩|⟨g,cap,cur,rfl,_⟩
 ·exact⟨none,0,rfl⟩
 ·exact⟨_,_,rfl⟩
theorem Qk{w w':World}{base n s:Nat}{e:TypeId}{v:Value}{xs:List Value}(h:w.ownsRow base e s v n xs)(hb:Below w.heap.size w w'):w'.ownsRow base e s v n xs:=
 h.kept (row:=none) ⟨hb.os,hb.tape,hb.output,hb.size,fun i hi _=>hb.block i hi⟩ (by cases hv:v.ownBlock<;>simp)
theorem Jc{w w':World}{base n s:Nat}{e:TypeId}{v:Value}{xs:List Value}(hown:w.ownsRow base e s v n xs)(hbase:base<=w.heap.size)(hg:w.grownBy w' v.ownBlock):Below base w w':=
 (D6 _ _).grown hg hbase (fun k hk=>(hown.lt k hk).1)
section
variable {P:Program} (w:World)
theorem JT(base s:Nat)(t ty e:TypeId)(i:TypeInfo)(ht:P.underlying t=some (.slice e))(hi:P.info? e=some i)
  (v:Value) (n:Nat) (xs:List Value) (hown:w.ownsRow base e s v n xs) (c:Nat):(Builtin.append_ #[t,t] ty #[v, .slice none 0 c]).run P w= .ok v w:=by
 rcases hown.2 with⟨rfl,rfl⟩|⟨g,cap,cur,rfl,_,_,z0,_⟩
 ·simp[Builtin.append_,run_underlying ht,sizeOf,typeInfo,hi,Builtin.lenOf,Builtin.firstCells]
 ·simp[Builtin.append_,run_underlying ht,sizeOf,typeInfo,hi,Builtin.lenOf,Builtin.firstCells,z0,storeCells]
theorem YP(base s:Nat)(t ty e:TypeId)(i:TypeInfo)(z:Value)(bytes:Nat)(ht:P.underlying t=some (.slice e))(hi:P.info? e=some i)(hz:i.zero=some z)
  (hsize:i.size=s) (hby:i.bytes=bytes) (hzs:z.cells.size=s) (hs0:0<s)
  (v:Value) (n:Nat) (xs:List Value) (hown:w.ownsRow base e s v n xs)
  (B:Nat) (A:Option Addr) (m c:Nat) (news:List Value) (hm:news.length=m*s) (hr:Qh w B A news) (h1:∀u∈news,u.oneCell'=true)
  (h63:n+m<=maxLen) (hbytes:(n+m)*bytes<=140737488355328) (hbase:base<=w.heap.size):
  ∃v' w',(Builtin.append_ #[t,t] ty #[v, .slice A m c]).run P w= .ok v' w'/\w'.ownsRow base e s v' (n+m) (xs++news)/\w.grownBy w' v.ownBlock/\
   (v'.ownBlock=v.ownBlock∨v'.ownBlock=some w.heap.size):=by
 rcases A with _|ad
 ·have hn:news=[]:=by
   rcases news with _|⟨u,us⟩
   ·rfl
   ·obtain⟨ad,h,_⟩:=hr (by simp);cases h
  subst hn;have:m=0:=by
   rcases N6 m with h|h
   ·exact h
   ·have:=Nat.mul_pos h hs0;simp at hm;omega
  subst this;exact⟨v,w,JT w base s t ty e i ht hi v n xs hown c,by simpa using hown,NT w _, .inl rfl⟩
 ·have z0:∀j u,news[j]?=some u->w.cell? (ad.add j)=some u:=by
   intro j u hu;obtain⟨ad',h,_,hc⟩:=hr (by have:=(NG.1 hu).1;omega)
   injection h with h
   subst h;exact hc j u hu
  obtain⟨v',w',z1,h2,h3,_,h5⟩:=run_append_own_at (P:=P) w base t ty e i z s bytes ht hi hz hsize hby hzs hs0 v n xs hown ad m c news hm z0 h1 h63 hbytes hbase;exact⟨v',w',z1,h2,h3,h5⟩
theorem Qq{ops:Array Oper}{rest:List Oper}{o:Oper}{a:Act}{Q:Exit->Act->World->Prop}(hgd:o.guard=none)(s x:Operand)(t:TypeId)
  (ho:o.op= .call {callee:= .builtin .append,args:=#[s,x],argTypes:=#[t,t]})
  (base sz:Nat) (e:TypeId) (i:TypeInfo) (z:Value) (bytes:Nat) (ht:P.underlying t=some (.slice e)) (hi:P.info? e=some i) (hz:i.zero=some z)
  (hsize:i.size=sz) (hby:i.bytes=bytes) (hzs:z.cells.size=sz) (hs0:0<sz)
  (v:Value) (n:Nat) (xs:List Value) (hs:a.eval s=v) (hown:w.ownsRow base e sz v n xs)
  (B:Nat) (A:Option Addr) (m c:Nat) (news:List Value) (hx:a.eval x= .slice A m c) (hm:news.length=m*sz) (hr:Qh w B A news) (h1:∀u∈news,u.oneCell'=true)
  (h63:n+m<=maxLen) (hbytes:(n+m)*bytes<=140737488355328) (hbase:base<=w.heap.size)
  (h:∀A' c' w',w'.ownsRow base e sz (.slice A' (n+m) c') (n+m) (xs++news)->w.grownBy w' v.ownBlock->Below base w w'->
   ((Value.slice A' (n+m) c').ownBlock=v.ownBlock∨(Value.slice A' (n+m) c').ownBlock=some w.heap.size)->wpList P ops Q rest (a.put o.dst (.slice A' (n+m) c')) w'):wpList P ops Q (o::rest) a w:=
 wpList_plain hgd fun _ hK=>by
  obtain⟨v',w',z0,h2,h3,h4⟩:=YP (P:=P) w base sz t o.type e i z bytes ht hi hz hsize hby hzs hs0 v n xs hown B A m c news hm hr h1 h63 hbytes hbase;obtain⟨A',c',rfl⟩:=QI h2;unfold Oper.wp execOp;simp only[ho,resolve,invoke,builtin,Sem.run_bind,Sem.run_pure,Result.andThen_ok,LB,Lg,List.map_nil,hs,hx,z0];exact hK _ _ (h A' c' w' h2 h3 (Jc hown hbase h3) h4)
theorem Yp{ops:Array Oper}{o:Oper}{a:Act}{K:Act->World->Prop}{Q:Exit->Act->World->Prop}{E:Prop}(hgd:o.guard=none)(s x:Operand)(t:TypeId)
  (ho:o.op= .call {callee:= .builtin .append,args:=#[s,x],argTypes:=#[t,t]})
  (base sz:Nat) (e:TypeId) (i:TypeInfo) (z:Value) (bytes:Nat) (ht:P.underlying t=some (.slice e)) (hi:P.info? e=some i) (hz:i.zero=some z)
  (hsize:i.size=sz) (hby:i.bytes=bytes) (hzs:z.cells.size=sz) (hs0:0<sz)
  (v:Value) (n:Nat) (xs:List Value) (hs:a.eval s=v) (hown:w.ownsRow base e sz v n xs)
  (B:Nat) (A:Option Addr) (m c:Nat) (news:List Value) (hx:a.eval x= .slice A m c) (hm:news.length=m*sz) (hr:Qh w B A news) (h1:∀u∈news,u.oneCell'=true)
  (h63:n+m<=maxLen) (hbytes:(n+m)*bytes<=140737488355328) (hbase:base<=w.heap.size)
  (h:∀A' c' w',w'.ownsRow base e sz (.slice A' (n+m) c') (n+m) (xs++news)->w.grownBy w' v.ownBlock->Below base w w'->
   K (a.put o.dst (.slice A' (n+m) c')) w'):if Region.wanted o (yielded ops a.tmps)=true then Oper.wp P o a w K Q else E:=by
 have hw:Region.wanted o (yielded ops a.tmps)=true:=by simp[Region.wanted,hgd]
 rw[if_pos hw];obtain⟨v',w',z0,h2,h3,h4⟩:=YP (P:=P) w base sz t o.type e i z bytes ht hi hz hsize hby hzs hs0 v n xs hown B A m c news hm hr h1 h63 hbytes hbase;obtain⟨A',c',rfl⟩:=QI h2;unfold Oper.wp execOp;simp only[ho,resolve,invoke,builtin,Sem.run_bind,Sem.run_pure,Result.andThen_ok,LB,Lg,List.map_nil,hs,hx,z0];exact h A' c' w' h2 h3 (Jc hown hbase h3)
end
def fv:List (Int×Int)->List Value
 |[]=>[]
 |(a,b)::r=> .int .i64 a:: .int .i64 b::fv r
theorem fv_append(a b:List (Int×Int)):fv (a++b)=fv a++fv b:=by
 induction a with
 |nil=>rfl
 |cons p a ih=>obtain⟨x,y⟩:=p;simp[fv,ih]
theorem fv_get(l:List (Int×Int)):∀j p,l[j]?=some p->(fv l)[j*2]?=some (.int .i64 p.1)/\(fv l)[j*2+1]?=some (.int .i64 p.2):=by
 induction l with
 |nil=>simp
 |cons q l ih=>
  obtain⟨x,y⟩:=q;intro j p hj;cases j with
  |zero=>simp at hj;subst hj;simp[fv]
  |succ j=>
   simp at hj;rw[show(j+1)*2=j*2+1+1 by omega]
   simp only[fv,NF];exact ih j p hj
def YC(w:World)(B:Nat)(A:Option Addr)(ls:List (Int×Int)):Prop:=
 0<ls.length->∃b o,A=some ⟨b,o,none⟩/\b<B/\∀j p,ls[j]?=some p->w.cell? ⟨b,o+j*2,none⟩=some (.int .i64 p.1)/\w.cell? ⟨b,o+j*2+1,none⟩=some (.int .i64 p.2)
theorem YC.below{w w':World}{B:Nat}{A:Option Addr}{ls:List (Int×Int)}(h:YC w B A ls)(hb:Below B w w'):YC w' B A ls:=fun hn=>by
 obtain⟨b,o,e,z0,hc⟩:=h hn;exact⟨b,o,e,z0,fun j p hj=>⟨(hb.cell (p:=⟨b,_,none⟩) z0).trans (hc j p hj).1,(hb.cell (p:=⟨b,_,none⟩) z0).trans (hc j p hj).2⟩⟩
theorem YC.more{w:World}{B B':Nat}{A:Option Addr}{ls:List (Int×Int)}(h:YC w B A ls)(hB:B<=B'):YC w B' A ls:=fun hn=>by
 obtain⟨b,o,e,hbb,hc⟩:=h hn;exact⟨b,o,e,by omega,hc⟩
theorem YC.of_own{w:World}{base:Nat}{e:TypeId}{A:Option Addr}{n c:Nat}{ls:List (Int×Int)}(hn:n=ls.length)(h:w.ownsRow base e 2 (.slice A n c) n (fv ls)):YC w w.heap.size A ls:=fun hp=>by
 subst hn;rcases h.2 with⟨h',hz⟩|⟨g,cap,cur,h',hb,hg,hnc,hcm,hcs,z1⟩
 ·injection h' with h1 h2 h3
  omega
 ·injection h' with h1 h2 h3
  subst h1 h3;refine⟨g,0,rfl,by have:=h.lt g rfl;omega,fun j p hj=>?_⟩
  have hjl:=(List.getElem?_eq_some_iff.1 hj).1;obtain⟨g1,g2⟩:=fv_get ls j p hj;have z0:∀i u,(fv ls)[i]?=some u->w.cell? ⟨g,i,none⟩=some u:=fun i u hu=>by
   rw[<-z1,Ls] at hu
   split at hu
   ·simp only[World.cell?,hg]
    first|exact hu|(simp at hu ⊢;exact hu)|(simpa using hu)
   ·cases hu
  rw[ND];exact⟨z0 _ _ g1,z0 _ _ g2⟩
theorem Z9{w:World}{base n c:Nat}{e:TypeId}{A:Option Addr}{xs:List Value}(h:w.ownsRow base e 1 (.slice A n c) n xs)(hn:0<n):∃g,A=some ⟨g,0,none⟩/\∀j v,xs[j]?=some v->w.cell? ⟨g,j,none⟩=some v:=by
 have hR:=Qh.of_own h;have hl:=h.1;obtain⟨ad,hA,_,hc⟩:=hR (by omega);rcases h.2 with⟨h',hz⟩|⟨g,cap,cur,h',_⟩
 ·injection h' with h1 h2 h3
  omega
 ·injection h' with h1 h2 h3
  rw[h1] at hA
  injection hA with hA
  refine⟨g,h1,fun j v hj=>?_⟩
  have:=hc j v hj;rw[<-hA,Zo,ND] at this;exact this
theorem cell_grown{w w':World}{row:Option Nat}(hg:w.grownBy w' row){p:Addr}(h1:p.block<w.heap.size)(h2:row≠some p.block):w'.cell? p=w.cell? p:=by
 obtain⟨_,_,_,_,hb⟩:=hg;have:=hb p.block h1 (fun e=>h2 (by first|exact e|exact e.symm));unfold World.cell?;rw[this]
section
variable {P:Program}
theorem GL(w:World)(src dst e:TypeId)(l:List UInt8)(hs:P.underlying src=some .string)(hd:P.underlying dst=some (.slice e))(he:P.underlying e=some (.int .u8)):
  ∃c O,(convert src dst (.string ⟨l.toArray⟩)).run P w= .ok (.slice (some ⟨w.heap.size,0,none⟩) l.length c) (w.drew.alloc O)/\Qh (w.drew.alloc O) (w.heap.size+1) (some ⟨w.heap.size,0,none⟩) (bv l)/\l.length<=c:=by
 refine⟨_,_,run_bytes_of_string w src dst e ⟨l.toArray⟩ hs hd he,fun _=>⟨_,rfl,N7 _,fun j u hu=>?_⟩,grownCap_ge _ _ _ _⟩
 have hj:=(NG.1 hu).1;rw[Qm] at hj;rw[Zo,ND];have h:=bytesRow_at ⟨l.toArray⟩ (grownCap w (ByteArray.mk l.toArray).size 0 e) j (by simpa using hj);have h2:=Nk w.drew (bytesRow ⟨l.toArray⟩ (grownCap w (ByteArray.mk l.toArray).size 0 e)) e ((bytesRow ⟨l.toArray⟩ (grownCap w (ByteArray.mk l.toArray).size 0 e)).size,(bytesRow ⟨l.toArray⟩ (grownCap w (ByteArray.mk l.toArray).size 0 e)).size+1) j;refine h2.trans (h.trans ?_);rw[bv_get l j hj] at hu;rw[<-hu];simp
end
section
variable {P:Program} {ops:Array Oper} {Q:Exit->Act->World->Prop} {md:Region.Mode} {S:World->Prop}
theorem anyH_skip(i:Nat){oi:Oper}{fuel:Nat}{listed:Array Bool}{a:Act}{w:World}(hr:(Region.ready md ops listed).contains i=true)(hf:Region.free md ops listed i=true)
  (hi:ops[i]?=some oi) (hs:Region.noSelect ops=true) (hQ:∀c a w,Q (.panic c) (a.put oi.dst undef) w->Q (.panic c) a w) (hw:Region.wanted oi (yielded ops a.tmps)=false) (hS:S w)
  (h:wpAnyH P md ops Q S fuel (listed.setIfInBounds i true) (a.put oi.dst undef) w):wpAnyH P md ops Q S (fuel+1) listed a w:=
 wpAnyH_take hi hs hf hr hQ (.inr ⟨hw,rfl⟩) hS h
theorem anyH_take(i:Nat){oi:Oper}{v:Value}{fuel:Nat}{listed:Array Bool}{a:Act}{w:World}(hr:(Region.ready md ops listed).contains i=true)(hf:Region.free md ops listed i=true)
  (hi:ops[i]?=some oi) (hs:Region.noSelect ops=true) (hQ:∀c a w,Q (.panic c) (a.put oi.dst v) w->Q (.panic c) a w) (hw:Region.wanted oi (yielded ops a.tmps)=true)
  (hv:∀w,S w->(execOp a.eval oi).run P w= .ok (.value v) w) (hS:S w)
  (h:wpAnyH P md ops Q S fuel (listed.setIfInBounds i true) (a.put oi.dst v) w):wpAnyH P md ops Q S (fuel+1) listed a w:=
 wpAnyH_take hi hs hf hr hQ (.inl ⟨hw,hv⟩) hS h
theorem anyH_one(i:Nat){oi:Oper}{fuel:Nat}{listed:Array Bool}{a:Act}{w:World}(hr:Region.ready md ops listed=[i])(hi:ops[i]?=some oi)(hw:Region.wanted oi (yielded ops a.tmps)=true)
  (h:∀K':Act->World->Prop,Shut (∀a w,S w->(S w->wpAnyH P md ops Q S fuel (listed.setIfInBounds i true) a w)->K' a w)->Oper.wp P oi a w K' Q):
  wpAnyH P md ops Q S (fuel+1) listed a w:=
 wpAnyH_ready hr (by simp) (AllReadyH.cons hi (fun K' hK=>by rw[if_pos hw];exact h K' hK) AllReadyH.nil)
theorem anyH_pass(i:Nat){oi:Oper}{fuel:Nat}{listed:Array Bool}{a:Act}{w:World}(hr:Region.ready md ops listed=[i])(hi:ops[i]?=some oi)(hw:Region.wanted oi (yielded ops a.tmps)=false)(hS:S w)
  (h:wpAnyH P md ops Q S fuel (listed.setIfInBounds i true) (a.put oi.dst undef) w):wpAnyH P md ops Q S (fuel+1) listed a w:=
 wpAnyH_ready hr (by simp) (AllReadyH.cons hi (fun K' hK=>by rw[if_neg (by rw[hw];decide)];exact hK.out _ _ hS (fun _=>h)) AllReadyH.nil)
theorem anyH_two(i j:Nat){oi oj:Oper}{fuel:Nat}{listed:Array Bool}{a:Act}{w:World}(hr:Region.ready md ops listed=[i,j])(hi:ops[i]?=some oi)(hj:ops[j]?=some oj)
  (hw:Region.wanted oi (yielded ops a.tmps)=true) (hv:Region.wanted oj (yielded ops a.tmps)=true)
  (h:∀K':Act->World->Prop,Shut (∀a w,S w->(S w->wpAnyH P md ops Q S fuel (listed.setIfInBounds i true) a w)->K' a w)->Oper.wp P oi a w K' Q)
  (h':∀K':Act->World->Prop,Shut (∀a w,S w->(S w->wpAnyH P md ops Q S fuel (listed.setIfInBounds j true) a w)->K' a w)->Oper.wp P oj a w K' Q):
  wpAnyH P md ops Q S (fuel+1) listed a w:=
 wpAnyH_ready hr (by simp) (AllReadyH.cons hi (fun K' hK=>by rw[if_pos hw];exact h K' hK) (AllReadyH.cons hj (fun K' hK=>by rw[if_pos hv];exact h' K' hK) AllReadyH.nil))
theorem R2{o:Oper}{a:Act}{w:World}{K:Act->World->Prop}{Q:Exit->Act->World->Prop}(s x:Operand)(t:TypeId)
  (ho:o.op= .call {callee:= .builtin .append,args:=#[s,x],argTypes:=#[t,t]})
  (base:Nat) (e:TypeId) (i:TypeInfo) (z:Value) (bytes:Nat) (ht:P.underlying t=some (.slice e)) (hi:P.info? e=some i) (hz:i.zero=some z)
  (hsize:i.size=1) (hby:i.bytes=bytes) (hzs:z.cells.size=1)
  (v:Value) (n:Nat) (xs:List Value) (hs:a.eval s=v) (hown:w.ownsRow base e 1 v n xs)
  (B:Nat) (A:Option Addr) (m c:Nat) (news:List Value) (hx:a.eval x= .slice A m c) (hm:m=news.length) (hr:Qh w B A news) (h1:∀u∈news,u.oneCell'=true)
  (h63:n+m<=maxLen) (hbytes:(n+m)*bytes<=140737488355328) (hbase:base<=w.heap.size)
  (h:∀A' c' w',w'.ownsRow base e 1 (.slice A' (n+m) c') (n+m) (xs++news)->w.grownBy w' v.ownBlock->K (a.put o.dst (.slice A' (n+m) c')) w'):Oper.wp P o a w K Q:=by
 obtain⟨v',w',z0,h2,h3,_⟩:=UQ (P:=P) w base t o.type e i z bytes ht hi hz hsize hby hzs v n xs hown B A m c news hm hr h1 h63 hbytes hbase;obtain⟨A',c',rfl⟩:=QN h2;unfold Oper.wp execOp;simp only[ho,resolve,invoke,builtin,Sem.run_bind,Sem.run_pure,Result.andThen_ok,LB,Lg,List.map_nil,hs,hx,z0];exact h _ _ _ h2 h3
end
inductive Je where
 |e
 |f (i:Nat) (r:Je)
 |o (i:Nat) (r:Je)
 |r (i:Nat) (r:Je)
 |t (i:Nat) (a:Je) (j:Nat) (b:Je)
 |u (i:Nat) (a:Je) (j:Nat) (b:Je) (k:Nat) (c:Je)
structure YL(T:Je)(p:Prop):Prop where
 out:p
theorem QD(T:Je){p:Prop}(h:YL T p):p:=h.out
theorem Qu{p:Prop}(h:p):YL .e p:=⟨h⟩
section
variable {P:Program} {ops:Array Oper} {Q:Exit->Act->World->Prop} {md:Region.Mode} {S:World->Prop} {T:Je} {i:Nat} {oi:Oper} {v:Value} {fuel:Nat} {listed:Array Bool} {a:Act} {w:World}
theorem QL(hc:((Region.ready md ops listed).contains i&&(Region.free md ops listed i&&Region.noSelect ops))=true:=by kernel_rfl)(hi:ops[i]?=some oi:=by simp only[NS,NF,NP]<;>rfl)(hQ:∀c a w,Q (.panic c) (a.put oi.dst v) w->Q (.panic c) a w:=by exact fun _ _ _ h=>h)
  (hv:(Region.wanted oi (yielded ops a.tmps)=true/\∀w,S w->(execOp a.eval oi).run P w= .ok (.value v) w)∨(Region.wanted oi (yielded ops a.tmps)=false/\v=undef)) (hS:S w:=by assumption)
  (h:YL T (wpAnyH P md ops Q S fuel (listed.setIfInBounds i true) (a.put oi.dst v) w)):YL (.f i T) (wpAnyH P md ops Q S (fuel+1) listed a w):=by
 rw[Nu,Nu] at hc;rcases hv with⟨hw,hv⟩|⟨hw,rfl⟩
 ·exact⟨anyH_take i hc.1 hc.2.1 hi hc.2.2 hQ hw hv hS h.out⟩
 ·exact⟨anyH_skip i hc.1 hc.2.1 hi hc.2.2 hQ hw hS h.out⟩
theorem Qr(hr:Region.ready md ops listed=[i]:=by kernel_rfl)(hi:ops[i]?=some oi:=by simp only[NS,NF,NP]<;>rfl)(hw:Region.wanted oi (yielded ops a.tmps)=false:=by rfl)(hS:S w:=by assumption)
  (h:YL T (wpAnyH P md ops Q S fuel (listed.setIfInBounds i true) (a.put oi.dst undef) w)):YL (.o i T) (wpAnyH P md ops Q S (fuel+1) listed a w):=
 ⟨anyH_pass i hr hi hw hS h.out⟩
theorem Qx(hr:Region.ready md ops listed=[i]:=by kernel_rfl)(hi:ops[i]?=some oi:=by simp only[NS,NF,NP]<;>rfl)(hw:Region.wanted oi (yielded ops a.tmps)=true:=by rfl)
  (h:∀K':Act->World->Prop,Shut (∀a w,S w->(S w->YL T (wpAnyH P md ops Q S fuel (listed.setIfInBounds i true) a w))->K' a w)->Oper.wp P oi a w K' Q):
  YL (.o i T) (wpAnyH P md ops Q S (fuel+1) listed a w):=
 ⟨anyH_one i hr hi hw fun K hK=>h K (fun a w hs hk=>hK.out a w hs fun hs=>(hk hs).out)⟩
theorem Zt{T':Je}{j:Nat}{oj:Oper}(hr:Region.ready md ops listed=[i,j]:=by kernel_rfl)(hi:ops[i]?=some oi:=by simp only[NS,NF,NP]<;>rfl)(hj:ops[j]?=some oj:=by simp only[NS,NF,NP]<;>rfl)
  (hw:Region.wanted oi (yielded ops a.tmps)=true:=by rfl) (hv:Region.wanted oj (yielded ops a.tmps)=true:=by rfl)
  (h:∀K':Act->World->Prop,Shut (∀a w,S w->(S w->YL T (wpAnyH P md ops Q S fuel (listed.setIfInBounds i true) a w))->K' a w)->Oper.wp P oi a w K' Q)
  (h':∀K':Act->World->Prop,Shut (∀a w,S w->(S w->YL T' (wpAnyH P md ops Q S fuel (listed.setIfInBounds j true) a w))->K' a w)->Oper.wp P oj a w K' Q):
  YL (.t i T j T') (wpAnyH P md ops Q S (fuel+1) listed a w):=
 ⟨anyH_two i j hr hi hj hw hv (fun K hK=>h K (fun a w hs hk=>hK.out a w hs fun hs=>(hk hs).out)) (fun K hK=>h' K (fun a w hs hk=>hK.out a w hs fun hs=>(hk hs).out))⟩
theorem planH_three{T' T'':Je}{j l:Nat}{oj ol:Oper}(hr:Region.ready md ops listed=[i,j,l]:=by kernel_rfl)(hi:ops[i]?=some oi:=by simp only[NS,NF,NP]<;>rfl)(hj:ops[j]?=some oj:=by simp only[NS,NF,NP]<;>rfl)(hl:ops[l]?=some ol:=by simp only[NS,NF,NP]<;>rfl)
  (hw:Region.wanted oi (yielded ops a.tmps)=true:=by rfl) (hv:Region.wanted oj (yielded ops a.tmps)=true:=by rfl) (hu:Region.wanted ol (yielded ops a.tmps)=true:=by rfl)
  (h:∀K':Act->World->Prop,Shut (∀a w,S w->(S w->YL T (wpAnyH P md ops Q S fuel (listed.setIfInBounds i true) a w))->K' a w)->Oper.wp P oi a w K' Q)
  (h':∀K':Act->World->Prop,Shut (∀a w,S w->(S w->YL T' (wpAnyH P md ops Q S fuel (listed.setIfInBounds j true) a w))->K' a w)->Oper.wp P oj a w K' Q)
  (h'':∀K':Act->World->Prop,Shut (∀a w,S w->(S w->YL T'' (wpAnyH P md ops Q S fuel (listed.setIfInBounds l true) a w))->K' a w)->Oper.wp P ol a w K' Q):
  YL (.u i T j T' l T'') (wpAnyH P md ops Q S (fuel+1) listed a w):=
 ⟨wpAnyH_ready hr (by simp) (AllReadyH.cons hi (fun K' hK=>by rw[if_pos hw];exact h K' (fun a w hs hk=>hK.out a w hs fun hs=>(hk hs).out)) (AllReadyH.cons hj (fun K' hK=>by rw[if_pos hv];exact h' K' (fun a w hs hk=>hK.out a w hs fun hs=>(hk hs).out)) (AllReadyH.cons hl (fun K' hK=>by rw[if_pos hu];exact h'' K' (fun a w hs hk=>hK.out a w hs fun hs=>(hk hs).out)) AllReadyH.nil)))⟩
theorem Q0(hr:Region.ready md ops listed=[i]:=by kernel_rfl)(hi:ops[i]?=some oi:=by simp only[NS,NF,NP]<;>rfl)(hw:Region.wanted oi (yielded ops a.tmps)=true:=by rfl)
  (h:∀K':Act->World->Prop,Shut (∀a w,S w->(S w->YL T (wpAnyH P md ops Q S fuel (listed.setIfInBounds i true) a w))->K' a w)->Oper.wp P oi a w K' Q):
  YL (.r i T) (wpAnyH P md ops Q S (fuel+1) listed a w):=
 ⟨anyH_one i hr hi hw fun K hK=>h K (fun a w hs hk=>hK.out a w hs fun hs=>(hk hs).out)⟩
end
def noDefer(o:Oper):Bool:=match o.op with
 | .defer _=>false
 |_=>true
def Ju(ops:Array Oper):Bool:=ops.toList.all noDefer
theorem GR{ops:Array Oper}(h:Ju ops=true){j:Nat}{o:Oper}(hj:ops[j]?=some o)(c):o.op≠ .defer c:=by
 intro e;have h1:=(NX.1 h) o (by rw[<-Array.mem_def];exact Array.mem_of_getElem? hj);unfold noDefer at h1;rw[e] at h1;cases h1
section
variable {l n:Nat} {P:Program} {md:Region.Mode} {ops:Array Oper} {Q:Exit->Act->World->Prop}
theorem Db{row:String}{args:Array Value}{w:World}{R:Value->World->Prop}(h:Rows P row args w R):RowsIn (Fence.wide.inRound l) n P row args w R:=fun c cs _=>by
 obtain⟨v,w',hr,hs⟩:=h c cs;exact⟨v,w',hr,stepsIn_wide.2 hs⟩
theorem wpOp_round(hd:Ju ops=true)(hL:¬LetsOut Q){i:Nat}{K:Act->World->Prop}{a:Act}{w:World}(h:wpOp P ops Q i K a w):wpOpIn (Fence.wide.inRound l) n P ops Q i K a w:=by
 unfold wpOpIn;unfold wpOp at h
 split
 ·rename_i hn
  simp only[hn] at h;exact h
 ·rename_i o ho
  simp only[ho] at h
  split
  ·rename_i hw
   simp only[hw,if_true] at h;refine⟨fun _ _=>trivial,?_⟩
   rw[Oper.semAt_eq _ _ _ (GR hd ho)];have h1:=h.resolve_right (fun h=>hL h.2);unfold Oper.wp at h1;generalize (execOp a.eval o).run P w=r at h1 ⊢;cases r with
   |ok x w'=>
    cases x<;>simp only[Oper.upon,Oper.uponIn] at h1 ⊢<;>
     first
      |exact h1
      |exact⟨fun h=>(by cases h),CallsIn.inRound l (callsIn_wide.2 h1)⟩
      |exact⟨fun h=>(by cases h),Db h1⟩
      |exact h1.elim
   |halt x w'=>cases x<;>simp only[Oper.upon,Oper.uponIn] at h1 ⊢<;>exact h1
  ·rename_i hw
   simp only[hw] at h;exact⟨fun _ _=>trivial,h⟩
theorem Kj(hd:Ju ops=true)(hL:¬LetsOut Q):∀(fuel:Nat) (listed:Array Bool) (a:Act) (w:World),wpAny P md ops Q fuel listed a w->wpAnyIn (Fence.wide.inRound l) n P md ops Q fuel listed a w
 |0,_,_,_,h=>h
 |fuel+1,listed,a,w,h=>⟨h.1,fun i hi=>wpOpIn_mono (fun a' w' h'=>Kj hd hL fuel _ a' w' h') (wpOp_round hd hL (h.2 i hi))⟩
theorem JJ{S:World->Prop}{K:Act->World->Prop}{Q':Exit->Act->World->Prop}{id:Nat}{a:Act}{w:World}(hd:Ju ops=true)(hm:P.follows .mixedOrders=true)(hS:S w.drew)
  (h:S w.drew->wpAnyH P .any ops (Exit.then K (fun _ _ _=>False)) S ops.size (Lr ops.size false) a w.drew):(Code.region id ops true).wpIn (Fence.wide.inRound l) n P (Exit.then K Q') a w:=
 wpIn_mono (wpIn_region_any (Q:=Exit.then K (fun _ _ _=>False)) hm (Kj hd (by rintro⟨a,w,h⟩;exact h) _ _ _ _ (wpAny_of_held _ _ _ _ (h hS)))) (by
  intro e a w h;cases e<;>first|exact h|exact h.elim)
theorem wpIn_cut9{F:Fence}{α₁ α₂ α₃ α₄ α₅ α₆ α₇ α₈ α₉:Type}{c:Code}{K:Act->World->Prop}{Q':Exit->Act->World->Prop}{a:Act}{w:World}(TM:α₁->α₂->α₃->α₄->α₅->α₆->α₇->α₈->α₉->Act)(Fc:α₁->α₂->α₃->α₄->α₅->α₆->α₇->α₈->α₉->World->Prop)
  (h1:c.wpIn F n P (Exit.then (fun b U=>∀K':Act->World->Prop,(∀x₁ x₂ x₃ x₄ x₅ x₆ x₇ x₈ x₉,Fc x₁ x₂ x₃ x₄ x₅ x₆ x₇ x₈ x₉ U->K' (TM x₁ x₂ x₃ x₄ x₅ x₆ x₇ x₈ x₉) U)->K' b U) (fun _ _ _=>False)) a w)
  (h2:∀x₁ x₂ x₃ x₄ x₅ x₆ x₇ x₈ x₉ U,Fc x₁ x₂ x₃ x₄ x₅ x₆ x₇ x₈ x₉ U->K (TM x₁ x₂ x₃ x₄ x₅ x₆ x₇ x₈ x₉) U):c.wpIn F n P (Exit.then K Q') a w:=
 wpIn_mono h1 (by
  intro e b U h;cases e with
  |normal=>
   exact h K fun _ _ _ _ _ _ _ _ _ hf=>h2 _ _ _ _ _ _ _ _ _ U hf
  |ret=>exact h.elim
  |exit id=>exact h.elim
  |goto t=>exact h.elim
  |panic ch=>exact h.elim
  |outgrown=>exact h.elim)
end
end Go.Proofs.YtijcgllddnpmhaaGreatDoor
