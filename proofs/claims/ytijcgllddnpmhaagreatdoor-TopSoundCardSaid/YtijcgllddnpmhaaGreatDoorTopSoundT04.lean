/- TopSound: lemmas, part 4. -/
import Derived.Test.YtijcgllddnpmhaaGreatDoorTopSoundT01
import Derived.Test.YtijcgllddnpmhaaGreatDoorTopSoundT02
import Derived.OpenShut
import Derived.ShutString
import Derived.ChangeOld
import Derived.SizedLaws
import Derived.Deep.Slices
import Derived.Deep.SlicePairs
set_option maxRecDepth 100000
set_option maxHeartbeats 16000000
set_option linter.all false
namespace Go.Proofs.YtijcgllddnpmhaaGreatDoor
open Go.RowKit Go.Proofs.Tryz
def ZI(w:World)(B:Nat)(A:Option Addr)(ls:List (Int×Int×Int)):Prop:=
 0<ls.length->∃b o,A=some ⟨b,o,none⟩/\b<B/\∀j p,ls[j]?=some p->w.cell? ⟨b,o+j*3,none⟩=some (.int .i64 p.1)/\w.cell? ⟨b,o+j*3+1,none⟩=some (.int .i64 p.2.1)/\w.cell? ⟨b,o+j*3+2,none⟩=some (.int .i64 p.2.2)
theorem ZI.below{w w':World}{B:Nat}{A:Option Addr}{ls:List (Int×Int×Int)}(h:ZI w B A ls)(hb:Below B w w'):ZI w' B A ls:=fun hn=>by
 obtain⟨b,o,e,z0,hc⟩:=h hn;exact⟨b,o,e,z0,fun j p hj=>⟨(hb.cell (p:=⟨b,_,none⟩) z0).trans (hc j p hj).1,(hb.cell (p:=⟨b,_,none⟩) z0).trans (hc j p hj).2.1,(hb.cell (p:=⟨b,_,none⟩) z0).trans (hc j p hj).2.2⟩⟩
theorem ZI.more{w:World}{B B':Nat}{A:Option Addr}{ls:List (Int×Int×Int)}(h:ZI w B A ls)(hB:B<=B'):ZI w B' A ls:=fun hn=>by
 obtain⟨b,o,e,hbb,hc⟩:=h hn;exact⟨b,o,e,by omega,hc⟩
def tv:List (Int×Int×Int)->List Value
 |[]=>[]
 |(a,b,c)::r=> .int .i64 a:: .int .i64 b:: .int .i64 c::tv r
theorem tv_get(l:List (Int×Int×Int)):∀j p,l[j]?=some p->(tv l)[j*3]?=some (.int .i64 p.1)/\(tv l)[j*3+1]?=some (.int .i64 p.2.1)/\(tv l)[j*3+2]?=some (.int .i64 p.2.2):=by
 induction l with
 |nil=>simp
 |cons q l ih=>
  obtain⟨x,y,z⟩:=q;intro j p hj;cases j with
  |zero=>simp at hj;subst hj;simp[tv]
  |succ j=>
   simp at hj;rw[show(j+1)*3=j*3+1+1+1 by omega]
   simp only[tv,NF];exact ih j p hj
theorem ZI.new(w:World)(ls:List (Int×Int×Int))(t:TypeId)(fr:Nat×Nat):ZI (w.alloc (.cells (tv ls).toArray t fr)) (w.heap.size+1) (some ⟨w.heap.size,0,none⟩) ls:=fun _=>by
 refine⟨_,0,rfl,N7 _,fun j p hj=>?_⟩
 obtain⟨h1,h2,h3⟩:=tv_get ls j p hj;rw[Nk,Nk,Nk,ND];exact⟨by simpa using h1,by simpa using h2,by simpa using h3⟩
abbrev XX:=Int×Int×Int
def inB(p:XX)(n:Int):Bool:=decide (p.2.1<=n/\n<=p.2.2)
def Ja(p:XX):Prop:=Xa p.1=true/\∀n,inB p n=true->XD n p.1=true
def JG(z:List (XX×Int)):Bool:=z.all fun q=>inB q.1 q.2
def VY(z:List (XX×Int)):List UInt8:=z.flatMap fun q=>leb q.1.1.toNat q.2.toNat
def XF(z:List (XX×Int)):List UInt8:=if JG z=true then VY z else []
theorem valE_append(a b:List (XX×Int)):JG (a++b)=(JG a&&JG b):=by simp[JG]
theorem valB_append(a b:List (XX×Int)):VY (a++b)=VY a++VY b:=by simp[VY]
theorem OM{p:XX}(h:Ja p):1<=p.1/\p.1<=8:=by
 have:=(Zy p.1).1 h.1;omega
theorem valB_len(z:List (XX×Int))(h:∀q∈z,Ja q.1):(VY z).length<=8*z.length:=by
 induction z with
 |nil=>simp[VY]
 |cons q z ih=>
  have h1:=OM (h q (by simp));have h2:=ih (fun r hr=>h r (by simp[hr]));simp only[VY,List.flatMap_cons,D7,QM,No] at*;omega
section
open Go.ChangeShapes Go.WideShapes Go.ChangeAt Go.RowKit Go.Deep
open Go.ChangeMaps (open_string shut_string)
theorem Ky{α:Type}{Q:Nat->α->Prop}:∀n:Nat,(∀i,i<n->∃x,Q i x)->∃xs:List α,xs.length=n/\∀i x,xs[i]?=some x->Q i x
 |0,_=>⟨[],rfl,by simp⟩
 |n+1,h=>by
  obtain⟨xs,hl,hx⟩:=Ky n (fun i hi=>h i (by omega));obtain⟨x,hq⟩:=h n (by omega);refine⟨xs++[x],by simp[hl],fun i y hy=>?_⟩
  rw[List.getElem?_append] at hy
  split at hy
  ·exact hx i y hy
  ·rename_i hge
   have:i-xs.length=0:=by
    rcases N6 (i-xs.length) with h0|h0
    ·exact h0
    ·rw[NI (by simp;omega)] at hy;cases hy
   rw[this] at hy;simp at hy;subst hy;have:i=n:=by omega
   subst this;exact hq
section
variable {H:Type} {enc:TypeId×Value->H} {P:Program} {w:World}
def Fit(P:Program)(t:TypeId)(d:DataW H):Prop:=∀n∈d.weights P t,n<=reachBytes
theorem fit_of{ts:List TypeId}{ds:List (DataW H)}(h:(DataW.weightsEach P ts ds).all (·<=reachBytes)=true)(j:Nat)(t:TypeId)(d:DataW H)(ht:ts[j]?=some t)(hd:ds[j]?=some d):Fit P t d:=fun n hn=>by
 have:=NX.1 h n (DataW.weights_mem_each ht hd n hn);simpa using this
theorem JK{e:TypeId}:∀{ds:List (DataW H)} {d:DataW H},d∈ds->∀n∈d.weights P e,n∈DataW.weightsAll P e ds
 |d0::ds,d,hd,n,hn=>by
  simp only[DataW.weightsAll,NY];rcases Nt.1 hd with rfl|h
  ·exact .inl hn
  ·exact .inr (JK h n hn)
theorem fit_elem{t e:TypeId}(ht:P.underlying t=some (.slice e)){elems spare:List (DataW H)}(h:Fit P t (.slice elems spare)){d:DataW H}(hd:d∈elems):Fit P e d:=fun n hn=>
 h n (by simp only[DataW.weights,ht,Nt,NY];exact .inr (.inl (JK hd n hn)))
theorem fit_len{t e:TypeId}(ht:P.underlying t=some (.slice e)){elems spare:List (DataW H)}(h:Fit P t (.slice elems spare)):(elems.length+spare.length)*P.bytesOf e<=reachBytes:=
 h _ (by simp[DataW.weights,ht])
theorem open_list{α:Type}(R:α->Value->Prop){t e:TypeId}{v:Value}{fuel:Nat}{d:DataW H}{p:List MemPlace}(ht:P.underlying t=some (.slice e))(hc:P.cellsOf e=1)
  (hr:DataW.trod enc P w 0 (fun _=>true) true fuel t [v]=some (d,p)) (hf:Fit P t d)
  (hel:∀v n d p,DataW.trod enc P w 0 (fun _=>true) true n e [v]=some (d,p)->Fit P e d->∃x:α,R x v):
  ∃a cap,∃xs:List α,v= .slice a xs.length cap/\xs.length<=cap/\cap<=maxLen/\cap*P.bytesOf e<=reachBytes/\
   (0<xs.length->∃ad,a=some ad/\ad.block<w.heap.size/\∀i x,xs[i]?=some x->∃v,w.cell? (ad.add i)=some v/\R x v):=by
 rcases open_slice1 ht hc hr with⟨z0,_⟩|⟨x,l,c,m,n,V,D,Pl,z0,_,hl,hm,z2,hx,hi⟩
 ·simp at z0;subst z0;exact⟨none,0,[],rfl,Na _,by simp[maxLen],by simp,by simp⟩
 ·simp at z0;subst z0;simp only[if_true] at z2;subst z2;simp only[Prod.mk.injEq] at hx;obtain⟨rfl,_⟩:=hx;have z1:=fit_len ht hf;simp only[NN,LN] at z1;rw[show l+(m-l)=m by omega] at z1
  obtain⟨xs,z3,z4⟩:=Ky (Q:=fun i y=>∃v,w.cell? (x.add i)=some v/\R y v) l (fun i hil=>by
   obtain⟨h1,h2⟩:=hi i (by omega);obtain⟨y,hy⟩:=hel (V i) n (D i) (Pl i) h2 (fit_elem ht hf (by simp only[LA,LR];exact⟨i,hil,rfl⟩));exact⟨y,_,h1,hy⟩)
  subst z3;refine⟨_,_,xs,rfl,hl,hm,z1,fun hpos=>⟨_,rfl,?_,z4⟩⟩
  have:=block_lt_of_cell (hi 0 (by omega)).1
  rwa[YA] at this
theorem open_num1{e:TypeId}{k:IntKind}{v:Value}{n:Nat}{d:DataW H}{p:List MemPlace}(he:P.underlying e=some (.int k))(h:DataW.trod enc P w 0 (fun _=>true) true n e [v]=some (d,p)):
  ∃x:Int,v= .int k x/\(Lit.int k x).wf=true:=by
 obtain⟨x,h1,_,h3⟩:=DataW.trod_int he h;exact⟨x,by simpa using h1,h3⟩
theorem open_bytes1{t e:TypeId}{v:Value}{fuel:Nat}{d:DataW H}{p:List MemPlace}(ht:P.underlying t=some (.slice e))(he:P.underlying e=some (.int .u8))(hc:P.cellsOf e=1)(hb:P.bytesOf e=1)
  (hr:DataW.trod enc P w 0 (fun _=>true) true fuel t [v]=some (d,p)) (hf:Fit P t d):
  ∃a z0,∃l:List UInt8,v= .slice a l.length z0/\l.length<=z0/\l.length<=reachBytes/\Qh w w.heap.size a (bv l):=by
 obtain⟨a,z0,xs,rfl,hl,_,z1,h⟩:=open_list (α:=UInt8) (fun x v=>v= .int .u8 x.toNat) ht hc hr hf (fun v n d p h _=>by
  obtain⟨x,h1,h2⟩:=open_num1 he h;have:=wf_u8 h2;refine⟨UInt8.ofNat x.toNat,?_⟩;rw[h1,UInt8.toNat_ofNat',Nat.mod_eq_of_lt (by omega),Int.toNat_of_nonneg (by omega)])
 rw[hb] at z1;refine⟨a,z0,xs,rfl,hl,by omega,fun hn=>?_⟩
 rw[Qm] at hn;obtain⟨ad,rfl,z2,hc⟩:=h hn;refine⟨ad,rfl,z2,fun j u hu=>?_⟩
 have hj:=(NG.1 hu).1;rw[Qm] at hj;obtain⟨v,hv,rfl⟩:=hc j _ (D1 hj);rw[hv];simp[bv,hj] at hu;rw[hu]
theorem trod_at{t:TypeId}{v:Value}{d:DataW H}{p:List MemPlace}(hv:v.cells=#[v])(h:DataW.Trod enc P w 0 (fun _=>true) true t v d p):∃fuel,DataW.trod enc P w 0 (fun _=>true) true fuel t [v]=some (d,p):=by
 obtain⟨f,hf⟩:=h;rw[hv] at hf;exact⟨f,hf⟩
theorem slice_arg{t e:TypeId}{r:Reach}{b0:Nat}{v:Value}{d:DataW H}{p:List MemPlace}(ht:P.underlying t=some (.slice e))(hv:Value.okWide P w r b0 t v)(h:DataW.Trod enc P w 0 (fun _=>true) true t v d p):
  ∃fuel,DataW.trod enc P w 0 (fun _=>true) true fuel t [v]=some (d,p):=by
 obtain⟨a,l,c,rfl⟩:=okWide_slice ht hv;exact trod_at rfl h
theorem arg_bytes{t e:TypeId}{r:Reach}{b0:Nat}{v:Value}{d:DataW H}{p:List MemPlace}(ht:P.underlying t=some (.slice e))(he:P.underlying e=some (.int .u8))(hc:P.cellsOf e=1)(hb:P.bytesOf e=1)
  (hv:Value.okWide P w r b0 t v) (h:DataW.Trod enc P w 0 (fun _=>true) true t v d p) (hf:Fit P t d):
  ∃a cap,∃l:List UInt8,v= .slice a l.length cap/\l.length<=cap/\l.length<=reachBytes/\Qh w w.heap.size a (bv l):=by
 obtain⟨_,h'⟩:=slice_arg ht hv h;exact open_bytes1 ht he hc hb h' hf
end
end
end Go.Proofs.YtijcgllddnpmhaaGreatDoor
